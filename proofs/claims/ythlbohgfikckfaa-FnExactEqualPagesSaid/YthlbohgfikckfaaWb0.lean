/- Walks: what each function of the program returns, for every input. Printed by gen.py. -/
import Derived.Test.YthlbohgfikckfaaWa
set_option linter.all false
namespace Go.Sw
open Go Go.RowKit Go.Proofs

theorem c_spec_l9Same (a : (Sl Str)) (b : (Sl Str)) (w : World) (h_a : Ph.ok w a) (h_b : Ph.ok w b)  : Calls Try.prog 55 [Sl.v a, Sl.v b].toArray w (RetP w (Bo (decide (a.l = b.l)))) := by
  have hw := h_a.lt
  refine enterN 26 Try.func55 rfl rfl rfl ?_
  have hs := Sat.start w
  refine WC.seq ?_
  refine WL.p (by rfl) (Yl.assign (by rfl)) ?_
  refine WL.next ?_
  refine WC.seq' ?_
  refine WC.seq ?_
  refine WL.p (by rfl) (Yl.move (by rfl)) ?_
  refine WL.p (by rfl) (Yl.len_sl slu24 (by rfl)) ?_
  refine WL.p (by rfl) (Yl.move (by rfl)) ?_
  refine WL.p (by rfl) (Yl.len_sl slu24 (by rfl)) ?_
  refine WL.p (by rfl) (Yl.nei (by rfl) (by rfl)) ?_
  refine WL.next ?_
  refine WC.condS (by rfl) (fun h1 => ?_) (fun h1 => ?_)
  ·
    replace h1 := not_eq_true h1
    replace h1 := of_decide_eq_false h1
    refine WC.seq ?_
    refine WL.p (by rfl) (Yl.assign (by rfl)) ?_
    refine WL.next ?_
    refine WC.ret ?_
    refine At.thenret ?_
    refine fin1' rfl (by rfl) ?_
    refine RetP.mk hs ?_
    have hne : ¬ a.l = b.l := by
      intro h
      have h2 := congrArg List.length h
      try simp at h2
      omega
    simp only [hne, decide_false]
  ·
    replace h1 := not_eq_false h1
    replace h1 := of_decide_eq_true h1
    refine WC.skipn ?_
    refine WC.seq' ?_
    refine WC.seq ?_
    refine WL.p (by rfl) (Yl.assign (by rfl)) ?_
    refine WL.next ?_
    refine WC.block ?_
    refine WC.loopC (ι := Nat) (fun k => a.l.length - k) (fun k => [(5, I (k : Int))]) (fun _ => []) (fun k => decide (a.l = b.l) = decide (a.l.drop k = b.l.drop k)) [(0, _), (1, _), (6, _), (7, _), (8, _), (9, _), (10, _)] 0 (hs) ⟨by rfl, by rfl, by rfl, by rfl, by rfl, by rfl, by rfl, trivial⟩ ⟨by rfl, trivial⟩ ?_ ?_
    ·
      simp
    clear hs; rintro k w hJ hs
    simp only [List.nil_append] at hs
    refine WC.seq' ?_
    refine WC.seq ?_
    refine WL.p (by rfl) (Yl.move (by rfl)) ?_
    refine WL.p (by rfl) (Yl.move (by rfl)) ?_
    refine WL.p (by rfl) (Yl.len_sl slu24 (by rfl)) ?_
    refine WL.p (by rfl) (Yl.lss (by rfl) (by rfl)) ?_
    refine WL.next ?_
    refine WC.condS (by rfl) (fun h2 => ?_) (fun h2 => ?_)
    ·
      replace h2 := of_decide_eq_true h2
      obtain ⟨d, hd⟩ := exists_get (l := a.l) (k := k) (by omega)
      obtain ⟨d2, hd2⟩ := exists_get (l := b.l) (k := k) (by omega)
      rw [drop_cons hd, drop_cons hd2] at hJ
      refine WC.skipn ?_
      refine WC.seq' ?_
      refine WC.block ?_
      refine WC.quietn mixed (by kernel_rfl) hs ?_
      refine WQ.p (by rfl) (fun w hs => Yl.move (by rfl)) ?_
      refine WQ.p (by rfl) (fun w hs => Yl.move (by rfl)) ?_
      refine WQ.p (by rfl) (fun w hs => Yl.indexAddr slt24 (by rfl) (by rfl) (Ph.old h_a hs) (by rfl) (hd)) ?_
      refine WQ.p (by rfl) (fun w hs => Yl.loadC0 sca9 (by rfl) (Sl.Ok.at_ (Ph.old h_a hs) (by assumption)).2 (by rfl)) ?_
      refine WQ.p (by rfl) (fun w hs => Yl.move (by rfl)) ?_
      refine WQ.p (by rfl) (fun w hs => Yl.move (by rfl)) ?_
      refine WQ.p (by rfl) (fun w hs => Yl.indexAddr slt24 (by rfl) (by rfl) (Ph.old h_b hs) (by rfl) (hd2)) ?_
      refine WQ.p (by rfl) (fun w hs => Yl.loadC0 sca9 (by rfl) (Sl.Ok.at_ (Ph.old h_b hs) (by assumption)).2 (by rfl)) ?_
      refine WQ.p (by rfl) (fun w hs => Yl.nes (by rfl) (by rfl)) ?_
      refine WQ.next ?_
      clear hs; intro w hs
      refine WC.condS (by rfl) (fun h3 => ?_) (fun h3 => ?_)
      ·
        replace h3 := not_eq_true h3
        replace h3 := of_decide_eq_false h3
        refine WC.seq ?_
        refine WL.p (by rfl) (Yl.assign (by rfl)) ?_
        refine WL.next ?_
        refine WC.ret ?_
        refine At.blockret ?_
        refine At.thenret ?_
        refine At.thenret ?_
        refine At.blockret ?_
        refine At.thenret ?_
        refine fin1' rfl (by rfl) ?_
        refine RetP.mk hs ?_
        rw [hJ]; simp_all
      ·
        replace h3 := not_eq_false h3
        replace h3 := of_decide_eq_true h3
        refine WC.skip ?_
        refine At.blocknormal ?_
        refine At.then_ ?_
        refine WC.region ?_
        refine WL.p (by rfl) (Yl.move (by rfl)) ?_
        refine WL.p (by rfl) (Yl.add (by rfl) (by rfl) (by omega)) ?_
        refine WL.p (by rfl) (Yl.assign (by rfl)) ?_
        refine WL.nil ?_
        refine At.roundC (k + 1) (hs.only (by repeat (first | exact Sel.nil | (apply Sel.cons; (repeat (first | exact Ext.here | apply Ext.there)))))) ⟨by rfl, by rfl, by rfl, by rfl, by rfl, by rfl, by rfl, trivial⟩ ⟨by rfl, trivial⟩ ?_ ?_
        ·
          omega
        ·
          rw [hJ]; simp_all
    ·
      replace h2 := of_decide_eq_false h2
      rw [drop_out (l := a.l) (by omega), drop_out (l := b.l) (by omega)] at hJ
      refine WC.exit ?_
      refine At.thenexit ?_
      refine At.thenexit ?_
      refine At.blockexit ?_
      refine At.then_ ?_
      refine WC.seq ?_
      refine WL.p (by rfl) (Yl.assign (by rfl)) ?_
      refine WL.next ?_
      refine WC.ret ?_
      refine fin1' rfl (by rfl) ?_
      refine RetP.mk hs ?_
      rw [hJ]; simp_all

theorem c_spec_EqualPolicies (a : PPolicy) (b : PPolicy) (w : World) (h_a : Ph.ok w a) (h_b : Ph.ok w b)  : Calls Try.prog 18 [.agg #[Bo a.set, Sl.v a.scripts, Sl.v a.styles, Sl.v a.images, S a.nonce], .agg #[Bo b.set, Sl.v b.scripts, Sl.v b.styles, Sl.v b.images, S b.nonce]].toArray w (RetP w (Bo (decide (a.lg = b.lg)))) := by
  refine enterN 38 Try.func18 rfl rfl rfl ?_
  have hs := Sat.start w
  refine WC.seq ?_
  refine WL.r (by rfl) (Yr.box hs (by rfl) (by rfl)) ?_
  clear hs; rintro _ w ⟨b1, rfl, hb, hs⟩; clear hb
  refine WL.r (by rfl) (Yr.box hs (by rfl) (by rfl)) ?_
  clear hs; rintro _ w ⟨b2, rfl, hb, hs⟩; clear hb
  refine WL.p (by rfl) (Yl.assign (by rfl)) ?_
  refine WL.next ?_
  refine WC.seq ?_
  refine WL.p (by rfl) (Yl.fieldAddr fa42_0 (by rfl)) ?_
  refine WL.p (by rfl) (Yl.loadB sca4 (by rfl) hs (by repeat (first | exact List.mem_cons_self | apply List.mem_cons_of_mem)) (by rfl)) ?_
  refine WL.p (by rfl) (Yl.fieldAddr fa42_0 (by rfl)) ?_
  refine WL.p (by rfl) (Yl.loadB sca4 (by rfl) hs (by repeat (first | exact List.mem_cons_self | apply List.mem_cons_of_mem)) (by rfl)) ?_
  refine WL.p (by rfl) (Yl.eqb bool4 (by rfl) (by rfl)) ?_
  refine WL.p (by rfl) (Yl.move (by rfl)) ?_
  refine WL.split (d := 10) (by rfl) (fun h1 => ?_) (fun h1 => ?_)
  ·
    replace h1 := beq_true h1
    refine WL.run (d := 10) (by rfl) (by rfl) ?_
    refine WL.p (by rfl) (Yl.fieldAddr fa42_1 (by rfl)) ?_
    refine WL.run (d := 10) (by rfl) (by rfl) ?_
    refine WL.p (by rfl) (Yl.loadB sca24 (by rfl) hs (by repeat (first | exact List.mem_cons_self | apply List.mem_cons_of_mem)) (by rfl)) ?_
    refine WL.run (d := 10) (by rfl) (by rfl) ?_
    refine WL.p (by rfl) (Yl.fieldAddr fa42_1 (by rfl)) ?_
    refine WL.run (d := 10) (by rfl) (by rfl) ?_
    refine WL.p (by rfl) (Yl.loadB sca24 (by rfl) hs (by repeat (first | exact List.mem_cons_self | apply List.mem_cons_of_mem)) (by rfl)) ?_
    refine WL.run (d := 10) (by rfl) (by rfl) ?_
    refine WL.callp hs (by rfl) (Yc.func (by rfl) fn55) (c_spec_l9Same _ _ _ (Ph.old h_a.scripts hs) (Ph.old h_b.scripts hs)) ?_
    clear hs; intro w hs
    refine WL.p (by rfl) (Yl.pickT (by rfl) (by rfl)) ?_
    refine WL.p (by rfl) (Yl.move (by rfl)) ?_
    refine WL.split (d := 17) (by rfl) (fun h2 => ?_) (fun h2 => ?_)
    ·
      replace h2 := of_decide_eq_true h2
      refine WL.run (d := 17) (by rfl) (by rfl) ?_
      refine WL.p (by rfl) (Yl.fieldAddr fa42_2 (by rfl)) ?_
      refine WL.run (d := 17) (by rfl) (by rfl) ?_
      refine WL.p (by rfl) (Yl.loadB sca24 (by rfl) hs (by repeat (first | exact List.mem_cons_self | apply List.mem_cons_of_mem)) (by rfl)) ?_
      refine WL.run (d := 17) (by rfl) (by rfl) ?_
      refine WL.p (by rfl) (Yl.fieldAddr fa42_2 (by rfl)) ?_
      refine WL.run (d := 17) (by rfl) (by rfl) ?_
      refine WL.p (by rfl) (Yl.loadB sca24 (by rfl) hs (by repeat (first | exact List.mem_cons_self | apply List.mem_cons_of_mem)) (by rfl)) ?_
      refine WL.run (d := 17) (by rfl) (by rfl) ?_
      refine WL.callp hs (by rfl) (Yc.func (by rfl) fn55) (c_spec_l9Same _ _ _ (Ph.old h_a.styles hs) (Ph.old h_b.styles hs)) ?_
      clear hs; intro w hs
      refine WL.p (by rfl) (Yl.pickT (by rfl) (by rfl)) ?_
      refine WL.p (by rfl) (Yl.move (by rfl)) ?_
      refine WL.split (d := 24) (by rfl) (fun h3 => ?_) (fun h3 => ?_)
      ·
        replace h3 := of_decide_eq_true h3
        refine WL.run (d := 24) (by rfl) (by rfl) ?_
        refine WL.p (by rfl) (Yl.fieldAddr fa42_3 (by rfl)) ?_
        refine WL.run (d := 24) (by rfl) (by rfl) ?_
        refine WL.p (by rfl) (Yl.loadB sca24 (by rfl) hs (by repeat (first | exact List.mem_cons_self | apply List.mem_cons_of_mem)) (by rfl)) ?_
        refine WL.run (d := 24) (by rfl) (by rfl) ?_
        refine WL.p (by rfl) (Yl.fieldAddr fa42_3 (by rfl)) ?_
        refine WL.run (d := 24) (by rfl) (by rfl) ?_
        refine WL.p (by rfl) (Yl.loadB sca24 (by rfl) hs (by repeat (first | exact List.mem_cons_self | apply List.mem_cons_of_mem)) (by rfl)) ?_
        refine WL.run (d := 24) (by rfl) (by rfl) ?_
        refine WL.callp hs (by rfl) (Yc.func (by rfl) fn55) (c_spec_l9Same _ _ _ (Ph.old h_a.images hs) (Ph.old h_b.images hs)) ?_
        clear hs; intro w hs
        refine WL.p (by rfl) (Yl.pickT (by rfl) (by rfl)) ?_
        refine WL.p (by rfl) (Yl.move (by rfl)) ?_
        refine WL.split (d := 31) (by rfl) (fun h4 => ?_) (fun h4 => ?_)
        ·
          replace h4 := of_decide_eq_true h4
          refine WL.run (d := 31) (by rfl) (by rfl) ?_
          refine WL.p (by rfl) (Yl.fieldAddr fa42_4 (by rfl)) ?_
          refine WL.run (d := 31) (by rfl) (by rfl) ?_
          refine WL.p (by rfl) (Yl.loadB sca9 (by rfl) hs (by repeat (first | exact List.mem_cons_self | apply List.mem_cons_of_mem)) (by rfl)) ?_
          refine WL.run (d := 31) (by rfl) (by rfl) ?_
          refine WL.p (by rfl) (Yl.fieldAddr fa42_4 (by rfl)) ?_
          refine WL.run (d := 31) (by rfl) (by rfl) ?_
          refine WL.p (by rfl) (Yl.loadB sca9 (by rfl) hs (by repeat (first | exact List.mem_cons_self | apply List.mem_cons_of_mem)) (by rfl)) ?_
          refine WL.run (d := 31) (by rfl) (by rfl) ?_
          refine WL.p (by rfl) (Yl.eqs (by rfl) (by rfl)) ?_
          refine WL.p (by rfl) (Yl.pickT (by rfl) (by rfl)) ?_
          refine WL.p (by rfl) (Yl.assign (by rfl)) ?_
          refine WL.next ?_
          refine WC.ret ?_
          refine fin1' rfl (by rfl) ?_
          refine RetP.mk hs ?_
          simp_all [TPolicy.ext_iff]
        ·
          replace h4 := of_decide_eq_false h4
          refine WL.skip (d := 31) (by rfl) (by rfl) (by rfl) (by rfl) ?_
          refine WL.skip (d := 31) (by rfl) (by rfl) (by rfl) (by rfl) ?_
          refine WL.skip (d := 31) (by rfl) (by rfl) (by rfl) (by rfl) ?_
          refine WL.skip (d := 31) (by rfl) (by rfl) (by rfl) (by rfl) ?_
          refine WL.skip (d := 31) (by rfl) (by rfl) (by rfl) (by rfl) ?_
          refine WL.p (by rfl) (Yl.pickF (by rfl) (by rfl)) ?_
          refine WL.p (by rfl) (Yl.assign (by rfl)) ?_
          refine WL.next ?_
          refine WC.ret ?_
          refine fin1' rfl (by rfl) ?_
          refine RetP.mk hs ?_
          simp_all [TPolicy.ext_iff]
      ·
        replace h3 := of_decide_eq_false h3
        refine WL.skip (d := 24) (by rfl) (by rfl) (by rfl) (by rfl) ?_
        refine WL.skip (d := 24) (by rfl) (by rfl) (by rfl) (by rfl) ?_
        refine WL.skip (d := 24) (by rfl) (by rfl) (by rfl) (by rfl) ?_
        refine WL.skip (d := 24) (by rfl) (by rfl) (by rfl) (by rfl) ?_
        refine WL.skip (d := 24) (by rfl) (by rfl) (by rfl) (by rfl) ?_
        refine WL.p (by rfl) (Yl.pickF (by rfl) (by rfl)) ?_
        refine WL.p (by rfl) (Yl.move (by rfl)) ?_
        refine WL.skip (d := 31) (by rfl) (by rfl) (by rfl) (by rfl) ?_
        refine WL.skip (d := 31) (by rfl) (by rfl) (by rfl) (by rfl) ?_
        refine WL.skip (d := 31) (by rfl) (by rfl) (by rfl) (by rfl) ?_
        refine WL.skip (d := 31) (by rfl) (by rfl) (by rfl) (by rfl) ?_
        refine WL.skip (d := 31) (by rfl) (by rfl) (by rfl) (by rfl) ?_
        refine WL.p (by rfl) (Yl.pickF (by rfl) (by rfl)) ?_
        refine WL.p (by rfl) (Yl.assign (by rfl)) ?_
        refine WL.next ?_
        refine WC.ret ?_
        refine fin1' rfl (by rfl) ?_
        refine RetP.mk hs ?_
        simp_all [TPolicy.ext_iff]
    ·
      replace h2 := of_decide_eq_false h2
      refine WL.skip (d := 17) (by rfl) (by rfl) (by rfl) (by rfl) ?_
      refine WL.skip (d := 17) (by rfl) (by rfl) (by rfl) (by rfl) ?_
      refine WL.skip (d := 17) (by rfl) (by rfl) (by rfl) (by rfl) ?_
      refine WL.skip (d := 17) (by rfl) (by rfl) (by rfl) (by rfl) ?_
      refine WL.skip (d := 17) (by rfl) (by rfl) (by rfl) (by rfl) ?_
      refine WL.p (by rfl) (Yl.pickF (by rfl) (by rfl)) ?_
      refine WL.p (by rfl) (Yl.move (by rfl)) ?_
      refine WL.skip (d := 24) (by rfl) (by rfl) (by rfl) (by rfl) ?_
      refine WL.skip (d := 24) (by rfl) (by rfl) (by rfl) (by rfl) ?_
      refine WL.skip (d := 24) (by rfl) (by rfl) (by rfl) (by rfl) ?_
      refine WL.skip (d := 24) (by rfl) (by rfl) (by rfl) (by rfl) ?_
      refine WL.skip (d := 24) (by rfl) (by rfl) (by rfl) (by rfl) ?_
      refine WL.p (by rfl) (Yl.pickF (by rfl) (by rfl)) ?_
      refine WL.p (by rfl) (Yl.move (by rfl)) ?_
      refine WL.skip (d := 31) (by rfl) (by rfl) (by rfl) (by rfl) ?_
      refine WL.skip (d := 31) (by rfl) (by rfl) (by rfl) (by rfl) ?_
      refine WL.skip (d := 31) (by rfl) (by rfl) (by rfl) (by rfl) ?_
      refine WL.skip (d := 31) (by rfl) (by rfl) (by rfl) (by rfl) ?_
      refine WL.skip (d := 31) (by rfl) (by rfl) (by rfl) (by rfl) ?_
      refine WL.p (by rfl) (Yl.pickF (by rfl) (by rfl)) ?_
      refine WL.p (by rfl) (Yl.assign (by rfl)) ?_
      refine WL.next ?_
      refine WC.ret ?_
      refine fin1' rfl (by rfl) ?_
      refine RetP.mk hs ?_
      simp_all [TPolicy.ext_iff]
  ·
    replace h1 := beq_false h1
    refine WL.skip (d := 10) (by rfl) (by rfl) (by rfl) (by rfl) ?_
    refine WL.skip (d := 10) (by rfl) (by rfl) (by rfl) (by rfl) ?_
    refine WL.skip (d := 10) (by rfl) (by rfl) (by rfl) (by rfl) ?_
    refine WL.skip (d := 10) (by rfl) (by rfl) (by rfl) (by rfl) ?_
    refine WL.skip (d := 10) (by rfl) (by rfl) (by rfl) (by rfl) ?_
    refine WL.p (by rfl) (Yl.pickF (by rfl) (by rfl)) ?_
    refine WL.p (by rfl) (Yl.move (by rfl)) ?_
    refine WL.skip (d := 17) (by rfl) (by rfl) (by rfl) (by rfl) ?_
    refine WL.skip (d := 17) (by rfl) (by rfl) (by rfl) (by rfl) ?_
    refine WL.skip (d := 17) (by rfl) (by rfl) (by rfl) (by rfl) ?_
    refine WL.skip (d := 17) (by rfl) (by rfl) (by rfl) (by rfl) ?_
    refine WL.skip (d := 17) (by rfl) (by rfl) (by rfl) (by rfl) ?_
    refine WL.p (by rfl) (Yl.pickF (by rfl) (by rfl)) ?_
    refine WL.p (by rfl) (Yl.move (by rfl)) ?_
    refine WL.skip (d := 24) (by rfl) (by rfl) (by rfl) (by rfl) ?_
    refine WL.skip (d := 24) (by rfl) (by rfl) (by rfl) (by rfl) ?_
    refine WL.skip (d := 24) (by rfl) (by rfl) (by rfl) (by rfl) ?_
    refine WL.skip (d := 24) (by rfl) (by rfl) (by rfl) (by rfl) ?_
    refine WL.skip (d := 24) (by rfl) (by rfl) (by rfl) (by rfl) ?_
    refine WL.p (by rfl) (Yl.pickF (by rfl) (by rfl)) ?_
    refine WL.p (by rfl) (Yl.move (by rfl)) ?_
    refine WL.skip (d := 31) (by rfl) (by rfl) (by rfl) (by rfl) ?_
    refine WL.skip (d := 31) (by rfl) (by rfl) (by rfl) (by rfl) ?_
    refine WL.skip (d := 31) (by rfl) (by rfl) (by rfl) (by rfl) ?_
    refine WL.skip (d := 31) (by rfl) (by rfl) (by rfl) (by rfl) ?_
    refine WL.skip (d := 31) (by rfl) (by rfl) (by rfl) (by rfl) ?_
    refine WL.p (by rfl) (Yl.pickF (by rfl) (by rfl)) ?_
    refine WL.p (by rfl) (Yl.assign (by rfl)) ?_
    refine WL.next ?_
    refine WC.ret ?_
    refine fin1' rfl (by rfl) ?_
    refine RetP.mk hs ?_
    simp_all [TPolicy.ext_iff]

theorem c_slices_Equal___string_string_ (s1 : (Sl Str)) (s2 : (Sl Str)) (w : World) (h_s1 : Ph.ok w s1) (h_s2 : Ph.ok w s2)  : Calls Try.prog 40 [Sl.v s1, Sl.v s2].toArray w (RetP w (Bo (decide (s1.l = s2.l)))) := by
  have hw := h_s1.lt
  refine enterN 26 Try.func40 rfl rfl rfl ?_
  have hs := Sat.start w
  refine WC.seq ?_
  refine WL.p (by rfl) (Yl.assign (by rfl)) ?_
  refine WL.next ?_
  refine WC.seq' ?_
  refine WC.seq ?_
  refine WL.p (by rfl) (Yl.move (by rfl)) ?_
  refine WL.p (by rfl) (Yl.len_sl slu24 (by rfl)) ?_
  refine WL.p (by rfl) (Yl.move (by rfl)) ?_
  refine WL.p (by rfl) (Yl.len_sl slu24 (by rfl)) ?_
  refine WL.p (by rfl) (Yl.nei (by rfl) (by rfl)) ?_
  refine WL.next ?_
  refine WC.condS (by rfl) (fun h1 => ?_) (fun h1 => ?_)
  ·
    replace h1 := not_eq_true h1
    replace h1 := of_decide_eq_false h1
    refine WC.seq ?_
    refine WL.p (by rfl) (Yl.assign (by rfl)) ?_
    refine WL.next ?_
    refine WC.ret ?_
    refine At.thenret ?_
    refine fin1' rfl (by rfl) ?_
    refine RetP.mk hs ?_
    have hne : ¬ s1.l = s2.l := by
      intro h
      have h2 := congrArg List.length h
      try simp at h2
      omega
    simp only [hne, decide_false]
  ·
    replace h1 := not_eq_false h1
    replace h1 := of_decide_eq_true h1
    refine WC.skipn ?_
    refine WC.seq' ?_
    refine WC.seq ?_
    refine WL.p (by rfl) (Yl.move (by rfl)) ?_
    refine WL.p (by rfl) (Yl.len_sl slu24 (by rfl)) ?_
    refine WL.p (by rfl) (Yl.move (by rfl)) ?_
    refine WL.next ?_
    refine WC.block ?_
    refine WC.loopC (ι := Nat) (fun k => s1.l.length - k) (fun k => [(13, I (k : Int))]) (fun _ => []) (fun k => decide (s1.l = s2.l) = decide (s1.l.drop k = s2.l.drop k)) [(0, _), (1, _), (6, _), (7, _), (8, _), (9, _), (10, _), (11, _), (12, _)] 0 (hs) ⟨by rfl, by rfl, by rfl, by rfl, by rfl, by rfl, by rfl, by rfl, by rfl, trivial⟩ ⟨by rfl, trivial⟩ ?_ ?_
    ·
      simp
    clear hs; rintro k w hJ hs
    simp only [List.nil_append] at hs
    refine WC.seq ?_
    refine WL.p (by rfl) (Yl.lss (by rfl) (by rfl)) ?_
    refine WL.next ?_
    refine WC.seq' ?_
    refine WC.condS (by rfl) (fun h2 => ?_) (fun h2 => ?_)
    ·
      replace h2 := of_decide_eq_true h2
      obtain ⟨d, hd⟩ := exists_get (l := s1.l) (k := k) (by omega)
      obtain ⟨d2, hd2⟩ := exists_get (l := s2.l) (k := k) (by omega)
      rw [drop_cons hd, drop_cons hd2] at hJ
      refine WC.skipn ?_
      refine WC.seq' ?_
      refine WC.block ?_
      refine WC.seq ?_
      refine WL.p (by rfl) (Yl.move (by rfl)) ?_
      refine WL.p (by rfl) (Yl.assign (by rfl)) ?_
      refine WL.next ?_
      refine WC.quietn mixed (by kernel_rfl) hs ?_
      refine WQ.p (by rfl) (fun w hs => Yl.move (by rfl)) ?_
      refine WQ.p (by rfl) (fun w hs => Yl.move (by rfl)) ?_
      refine WQ.p (by rfl) (fun w hs => Yl.indexAddr slt24 (by rfl) (by rfl) (Ph.old h_s1 hs) (by rfl) (hd)) ?_
      refine WQ.p (by rfl) (fun w hs => Yl.loadC0 sca9 (by rfl) (Sl.Ok.at_ (Ph.old h_s1 hs) (by assumption)).2 (by rfl)) ?_
      refine WQ.p (by rfl) (fun w hs => Yl.move (by rfl)) ?_
      refine WQ.p (by rfl) (fun w hs => Yl.move (by rfl)) ?_
      refine WQ.p (by rfl) (fun w hs => Yl.indexAddr slt24 (by rfl) (by rfl) (Ph.old h_s2 hs) (by rfl) (hd2)) ?_
      refine WQ.p (by rfl) (fun w hs => Yl.loadC0 sca9 (by rfl) (Sl.Ok.at_ (Ph.old h_s2 hs) (by assumption)).2 (by rfl)) ?_
      refine WQ.p (by rfl) (fun w hs => Yl.nes (by rfl) (by rfl)) ?_
      refine WQ.next ?_
      clear hs; intro w hs
      refine WC.condS (by rfl) (fun h3 => ?_) (fun h3 => ?_)
      ·
        replace h3 := not_eq_true h3
        replace h3 := of_decide_eq_false h3
        refine WC.seq ?_
        refine WL.p (by rfl) (Yl.assign (by rfl)) ?_
        refine WL.next ?_
        refine WC.ret ?_
        refine At.blockret ?_
        refine At.thenret ?_
        refine At.thenret ?_
        refine At.blockret ?_
        refine At.thenret ?_
        refine fin1' rfl (by rfl) ?_
        refine RetP.mk hs ?_
        rw [hJ]; simp_all
      ·
        replace h3 := not_eq_false h3
        replace h3 := of_decide_eq_true h3
        refine WC.skip ?_
        refine At.blocknormal ?_
        refine At.then_ ?_
        refine WC.region ?_
        refine WL.p (by rfl) (Yl.add (by rfl) (by rfl) (by omega)) ?_
        refine WL.p (by rfl) (Yl.move (by rfl)) ?_
        refine WL.nil ?_
        refine At.roundC (k + 1) (hs.only (by repeat (first | exact Sel.nil | (apply Sel.cons; (repeat (first | exact Ext.here | apply Ext.there)))))) ⟨by rfl, by rfl, by rfl, by rfl, by rfl, by rfl, by rfl, by rfl, by rfl, trivial⟩ ⟨by rfl, trivial⟩ ?_ ?_
        ·
          omega
        ·
          rw [hJ]; simp_all
    ·
      replace h2 := of_decide_eq_false h2
      rw [drop_out (l := s1.l) (by omega), drop_out (l := s2.l) (by omega)] at hJ
      refine WC.exit ?_
      refine At.thenexit ?_
      refine At.thenexit ?_
      refine At.blockexit ?_
      refine At.then_ ?_
      refine WC.seq ?_
      refine WL.p (by rfl) (Yl.assign (by rfl)) ?_
      refine WL.next ?_
      refine WC.ret ?_
      refine fin1' rfl (by rfl) ?_
      refine RetP.mk hs ?_
      rw [hJ]; simp_all

theorem c_impl_EqualPolicies (a : PPolicy) (b : PPolicy) (w : World) (h_a : Ph.ok w a) (h_b : Ph.ok w b)  : Calls Try.prog 33 [.agg #[Bo a.set, Sl.v a.scripts, Sl.v a.styles, Sl.v a.images, S a.nonce], .agg #[Bo b.set, Sl.v b.scripts, Sl.v b.styles, Sl.v b.images, S b.nonce]].toArray w (RetP w (Bo (decide (a.lg = b.lg)))) := by
  refine enterN 38 Try.func33 rfl rfl rfl ?_
  have hs := Sat.start w
  refine WC.seq ?_
  refine WL.r (by rfl) (Yr.box hs (by rfl) (by rfl)) ?_
  clear hs; rintro _ w ⟨b1, rfl, hb, hs⟩; clear hb
  refine WL.r (by rfl) (Yr.box hs (by rfl) (by rfl)) ?_
  clear hs; rintro _ w ⟨b2, rfl, hb, hs⟩; clear hb
  refine WL.p (by rfl) (Yl.assign (by rfl)) ?_
  refine WL.next ?_
  refine WC.seq ?_
  refine WL.p (by rfl) (Yl.fieldAddr fa42_0 (by rfl)) ?_
  refine WL.p (by rfl) (Yl.loadB sca4 (by rfl) hs (by repeat (first | exact List.mem_cons_self | apply List.mem_cons_of_mem)) (by rfl)) ?_
  refine WL.p (by rfl) (Yl.fieldAddr fa42_0 (by rfl)) ?_
  refine WL.p (by rfl) (Yl.loadB sca4 (by rfl) hs (by repeat (first | exact List.mem_cons_self | apply List.mem_cons_of_mem)) (by rfl)) ?_
  refine WL.p (by rfl) (Yl.eqb bool4 (by rfl) (by rfl)) ?_
  refine WL.p (by rfl) (Yl.move (by rfl)) ?_
  refine WL.split (d := 10) (by rfl) (fun h1 => ?_) (fun h1 => ?_)
  ·
    replace h1 := beq_true h1
    refine WL.run (d := 10) (by rfl) (by rfl) ?_
    refine WL.p (by rfl) (Yl.fieldAddr fa42_1 (by rfl)) ?_
    refine WL.run (d := 10) (by rfl) (by rfl) ?_
    refine WL.p (by rfl) (Yl.loadB sca24 (by rfl) hs (by repeat (first | exact List.mem_cons_self | apply List.mem_cons_of_mem)) (by rfl)) ?_
    refine WL.run (d := 10) (by rfl) (by rfl) ?_
    refine WL.p (by rfl) (Yl.fieldAddr fa42_1 (by rfl)) ?_
    refine WL.run (d := 10) (by rfl) (by rfl) ?_
    refine WL.p (by rfl) (Yl.loadB sca24 (by rfl) hs (by repeat (first | exact List.mem_cons_self | apply List.mem_cons_of_mem)) (by rfl)) ?_
    refine WL.run (d := 10) (by rfl) (by rfl) ?_
    refine WL.callp hs (by rfl) (Yc.func (by rfl) fn40) (c_slices_Equal___string_string_ _ _ _ (Ph.old h_a.scripts hs) (Ph.old h_b.scripts hs)) ?_
    clear hs; intro w hs
    refine WL.p (by rfl) (Yl.pickT (by rfl) (by rfl)) ?_
    refine WL.p (by rfl) (Yl.move (by rfl)) ?_
    refine WL.split (d := 17) (by rfl) (fun h2 => ?_) (fun h2 => ?_)
    ·
      replace h2 := of_decide_eq_true h2
      refine WL.run (d := 17) (by rfl) (by rfl) ?_
      refine WL.p (by rfl) (Yl.fieldAddr fa42_2 (by rfl)) ?_
      refine WL.run (d := 17) (by rfl) (by rfl) ?_
      refine WL.p (by rfl) (Yl.loadB sca24 (by rfl) hs (by repeat (first | exact List.mem_cons_self | apply List.mem_cons_of_mem)) (by rfl)) ?_
      refine WL.run (d := 17) (by rfl) (by rfl) ?_
      refine WL.p (by rfl) (Yl.fieldAddr fa42_2 (by rfl)) ?_
      refine WL.run (d := 17) (by rfl) (by rfl) ?_
      refine WL.p (by rfl) (Yl.loadB sca24 (by rfl) hs (by repeat (first | exact List.mem_cons_self | apply List.mem_cons_of_mem)) (by rfl)) ?_
      refine WL.run (d := 17) (by rfl) (by rfl) ?_
      refine WL.callp hs (by rfl) (Yc.func (by rfl) fn40) (c_slices_Equal___string_string_ _ _ _ (Ph.old h_a.styles hs) (Ph.old h_b.styles hs)) ?_
      clear hs; intro w hs
      refine WL.p (by rfl) (Yl.pickT (by rfl) (by rfl)) ?_
      refine WL.p (by rfl) (Yl.move (by rfl)) ?_
      refine WL.split (d := 24) (by rfl) (fun h3 => ?_) (fun h3 => ?_)
      ·
        replace h3 := of_decide_eq_true h3
        refine WL.run (d := 24) (by rfl) (by rfl) ?_
        refine WL.p (by rfl) (Yl.fieldAddr fa42_3 (by rfl)) ?_
        refine WL.run (d := 24) (by rfl) (by rfl) ?_
        refine WL.p (by rfl) (Yl.loadB sca24 (by rfl) hs (by repeat (first | exact List.mem_cons_self | apply List.mem_cons_of_mem)) (by rfl)) ?_
        refine WL.run (d := 24) (by rfl) (by rfl) ?_
        refine WL.p (by rfl) (Yl.fieldAddr fa42_3 (by rfl)) ?_
        refine WL.run (d := 24) (by rfl) (by rfl) ?_
        refine WL.p (by rfl) (Yl.loadB sca24 (by rfl) hs (by repeat (first | exact List.mem_cons_self | apply List.mem_cons_of_mem)) (by rfl)) ?_
        refine WL.run (d := 24) (by rfl) (by rfl) ?_
        refine WL.callp hs (by rfl) (Yc.func (by rfl) fn40) (c_slices_Equal___string_string_ _ _ _ (Ph.old h_a.images hs) (Ph.old h_b.images hs)) ?_
        clear hs; intro w hs
        refine WL.p (by rfl) (Yl.pickT (by rfl) (by rfl)) ?_
        refine WL.p (by rfl) (Yl.move (by rfl)) ?_
        refine WL.split (d := 31) (by rfl) (fun h4 => ?_) (fun h4 => ?_)
        ·
          replace h4 := of_decide_eq_true h4
          refine WL.run (d := 31) (by rfl) (by rfl) ?_
          refine WL.p (by rfl) (Yl.fieldAddr fa42_4 (by rfl)) ?_
          refine WL.run (d := 31) (by rfl) (by rfl) ?_
          refine WL.p (by rfl) (Yl.loadB sca9 (by rfl) hs (by repeat (first | exact List.mem_cons_self | apply List.mem_cons_of_mem)) (by rfl)) ?_
          refine WL.run (d := 31) (by rfl) (by rfl) ?_
          refine WL.p (by rfl) (Yl.fieldAddr fa42_4 (by rfl)) ?_
          refine WL.run (d := 31) (by rfl) (by rfl) ?_
          refine WL.p (by rfl) (Yl.loadB sca9 (by rfl) hs (by repeat (first | exact List.mem_cons_self | apply List.mem_cons_of_mem)) (by rfl)) ?_
          refine WL.run (d := 31) (by rfl) (by rfl) ?_
          refine WL.p (by rfl) (Yl.eqs (by rfl) (by rfl)) ?_
          refine WL.p (by rfl) (Yl.pickT (by rfl) (by rfl)) ?_
          refine WL.p (by rfl) (Yl.assign (by rfl)) ?_
          refine WL.next ?_
          refine WC.ret ?_
          refine fin1' rfl (by rfl) ?_
          refine RetP.mk hs ?_
          simp_all [TPolicy.ext_iff]
        ·
          replace h4 := of_decide_eq_false h4
          refine WL.skip (d := 31) (by rfl) (by rfl) (by rfl) (by rfl) ?_
          refine WL.skip (d := 31) (by rfl) (by rfl) (by rfl) (by rfl) ?_
          refine WL.skip (d := 31) (by rfl) (by rfl) (by rfl) (by rfl) ?_
          refine WL.skip (d := 31) (by rfl) (by rfl) (by rfl) (by rfl) ?_
          refine WL.skip (d := 31) (by rfl) (by rfl) (by rfl) (by rfl) ?_
          refine WL.p (by rfl) (Yl.pickF (by rfl) (by rfl)) ?_
          refine WL.p (by rfl) (Yl.assign (by rfl)) ?_
          refine WL.next ?_
          refine WC.ret ?_
          refine fin1' rfl (by rfl) ?_
          refine RetP.mk hs ?_
          simp_all [TPolicy.ext_iff]
      ·
        replace h3 := of_decide_eq_false h3
        refine WL.skip (d := 24) (by rfl) (by rfl) (by rfl) (by rfl) ?_
        refine WL.skip (d := 24) (by rfl) (by rfl) (by rfl) (by rfl) ?_
        refine WL.skip (d := 24) (by rfl) (by rfl) (by rfl) (by rfl) ?_
        refine WL.skip (d := 24) (by rfl) (by rfl) (by rfl) (by rfl) ?_
        refine WL.skip (d := 24) (by rfl) (by rfl) (by rfl) (by rfl) ?_
        refine WL.p (by rfl) (Yl.pickF (by rfl) (by rfl)) ?_
        refine WL.p (by rfl) (Yl.move (by rfl)) ?_
        refine WL.skip (d := 31) (by rfl) (by rfl) (by rfl) (by rfl) ?_
        refine WL.skip (d := 31) (by rfl) (by rfl) (by rfl) (by rfl) ?_
        refine WL.skip (d := 31) (by rfl) (by rfl) (by rfl) (by rfl) ?_
        refine WL.skip (d := 31) (by rfl) (by rfl) (by rfl) (by rfl) ?_
        refine WL.skip (d := 31) (by rfl) (by rfl) (by rfl) (by rfl) ?_
        refine WL.p (by rfl) (Yl.pickF (by rfl) (by rfl)) ?_
        refine WL.p (by rfl) (Yl.assign (by rfl)) ?_
        refine WL.next ?_
        refine WC.ret ?_
        refine fin1' rfl (by rfl) ?_
        refine RetP.mk hs ?_
        simp_all [TPolicy.ext_iff]
    ·
      replace h2 := of_decide_eq_false h2
      refine WL.skip (d := 17) (by rfl) (by rfl) (by rfl) (by rfl) ?_
      refine WL.skip (d := 17) (by rfl) (by rfl) (by rfl) (by rfl) ?_
      refine WL.skip (d := 17) (by rfl) (by rfl) (by rfl) (by rfl) ?_
      refine WL.skip (d := 17) (by rfl) (by rfl) (by rfl) (by rfl) ?_
      refine WL.skip (d := 17) (by rfl) (by rfl) (by rfl) (by rfl) ?_
      refine WL.p (by rfl) (Yl.pickF (by rfl) (by rfl)) ?_
      refine WL.p (by rfl) (Yl.move (by rfl)) ?_
      refine WL.skip (d := 24) (by rfl) (by rfl) (by rfl) (by rfl) ?_
      refine WL.skip (d := 24) (by rfl) (by rfl) (by rfl) (by rfl) ?_
      refine WL.skip (d := 24) (by rfl) (by rfl) (by rfl) (by rfl) ?_
      refine WL.skip (d := 24) (by rfl) (by rfl) (by rfl) (by rfl) ?_
      refine WL.skip (d := 24) (by rfl) (by rfl) (by rfl) (by rfl) ?_
      refine WL.p (by rfl) (Yl.pickF (by rfl) (by rfl)) ?_
      refine WL.p (by rfl) (Yl.move (by rfl)) ?_
      refine WL.skip (d := 31) (by rfl) (by rfl) (by rfl) (by rfl) ?_
      refine WL.skip (d := 31) (by rfl) (by rfl) (by rfl) (by rfl) ?_
      refine WL.skip (d := 31) (by rfl) (by rfl) (by rfl) (by rfl) ?_
      refine WL.skip (d := 31) (by rfl) (by rfl) (by rfl) (by rfl) ?_
      refine WL.skip (d := 31) (by rfl) (by rfl) (by rfl) (by rfl) ?_
      refine WL.p (by rfl) (Yl.pickF (by rfl) (by rfl)) ?_
      refine WL.p (by rfl) (Yl.assign (by rfl)) ?_
      refine WL.next ?_
      refine WC.ret ?_
      refine fin1' rfl (by rfl) ?_
      refine RetP.mk hs ?_
      simp_all [TPolicy.ext_iff]
  ·
    replace h1 := beq_false h1
    refine WL.skip (d := 10) (by rfl) (by rfl) (by rfl) (by rfl) ?_
    refine WL.skip (d := 10) (by rfl) (by rfl) (by rfl) (by rfl) ?_
    refine WL.skip (d := 10) (by rfl) (by rfl) (by rfl) (by rfl) ?_
    refine WL.skip (d := 10) (by rfl) (by rfl) (by rfl) (by rfl) ?_
    refine WL.skip (d := 10) (by rfl) (by rfl) (by rfl) (by rfl) ?_
    refine WL.p (by rfl) (Yl.pickF (by rfl) (by rfl)) ?_
    refine WL.p (by rfl) (Yl.move (by rfl)) ?_
    refine WL.skip (d := 17) (by rfl) (by rfl) (by rfl) (by rfl) ?_
    refine WL.skip (d := 17) (by rfl) (by rfl) (by rfl) (by rfl) ?_
    refine WL.skip (d := 17) (by rfl) (by rfl) (by rfl) (by rfl) ?_
    refine WL.skip (d := 17) (by rfl) (by rfl) (by rfl) (by rfl) ?_
    refine WL.skip (d := 17) (by rfl) (by rfl) (by rfl) (by rfl) ?_
    refine WL.p (by rfl) (Yl.pickF (by rfl) (by rfl)) ?_
    refine WL.p (by rfl) (Yl.move (by rfl)) ?_
    refine WL.skip (d := 24) (by rfl) (by rfl) (by rfl) (by rfl) ?_
    refine WL.skip (d := 24) (by rfl) (by rfl) (by rfl) (by rfl) ?_
    refine WL.skip (d := 24) (by rfl) (by rfl) (by rfl) (by rfl) ?_
    refine WL.skip (d := 24) (by rfl) (by rfl) (by rfl) (by rfl) ?_
    refine WL.skip (d := 24) (by rfl) (by rfl) (by rfl) (by rfl) ?_
    refine WL.p (by rfl) (Yl.pickF (by rfl) (by rfl)) ?_
    refine WL.p (by rfl) (Yl.move (by rfl)) ?_
    refine WL.skip (d := 31) (by rfl) (by rfl) (by rfl) (by rfl) ?_
    refine WL.skip (d := 31) (by rfl) (by rfl) (by rfl) (by rfl) ?_
    refine WL.skip (d := 31) (by rfl) (by rfl) (by rfl) (by rfl) ?_
    refine WL.skip (d := 31) (by rfl) (by rfl) (by rfl) (by rfl) ?_
    refine WL.skip (d := 31) (by rfl) (by rfl) (by rfl) (by rfl) ?_
    refine WL.p (by rfl) (Yl.pickF (by rfl) (by rfl)) ?_
    refine WL.p (by rfl) (Yl.assign (by rfl)) ?_
    refine WL.next ?_
    refine WC.ret ?_
    refine fin1' rfl (by rfl) ?_
    refine RetP.mk hs ?_
    simp_all [TPolicy.ext_iff]

theorem c_spec_EqualInts (a : (Sl Int)) (b : (Sl Int)) (w : World) (h_a : Ph.ok w a) (h_b : Ph.ok w b)  : Calls Try.prog 56 [Sl.v a, Sl.v b].toArray w (RetP w (Bo (decide (a.l = b.l)))) := by
  have hw := h_a.lt
  refine enterN 26 Try.func56 rfl rfl rfl ?_
  have hs := Sat.start w
  refine WC.seq ?_
  refine WL.p (by rfl) (Yl.assign (by rfl)) ?_
  refine WL.next ?_
  refine WC.seq' ?_
  refine WC.seq ?_
  refine WL.p (by rfl) (Yl.move (by rfl)) ?_
  refine WL.p (by rfl) (Yl.len_sl slu31 (by rfl)) ?_
  refine WL.p (by rfl) (Yl.move (by rfl)) ?_
  refine WL.p (by rfl) (Yl.len_sl slu31 (by rfl)) ?_
  refine WL.p (by rfl) (Yl.nei (by rfl) (by rfl)) ?_
  refine WL.next ?_
  refine WC.condS (by rfl) (fun h1 => ?_) (fun h1 => ?_)
  ·
    replace h1 := not_eq_true h1
    replace h1 := of_decide_eq_false h1
    refine WC.seq ?_
    refine WL.p (by rfl) (Yl.assign (by rfl)) ?_
    refine WL.next ?_
    refine WC.ret ?_
    refine At.thenret ?_
    refine fin1' rfl (by rfl) ?_
    refine RetP.mk hs ?_
    have hne : ¬ a.l = b.l := by
      intro h
      have h2 := congrArg List.length h
      try simp at h2
      omega
    simp only [hne, decide_false]
  ·
    replace h1 := not_eq_false h1
    replace h1 := of_decide_eq_true h1
    refine WC.skipn ?_
    refine WC.seq' ?_
    refine WC.seq ?_
    refine WL.p (by rfl) (Yl.assign (by rfl)) ?_
    refine WL.next ?_
    refine WC.block ?_
    refine WC.loopC (ι := Nat) (fun k => a.l.length - k) (fun k => [(5, I (k : Int))]) (fun _ => []) (fun k => decide (a.l = b.l) = decide (a.l.drop k = b.l.drop k)) [(0, _), (1, _), (6, _), (7, _), (8, _), (9, _), (10, _)] 0 (hs) ⟨by rfl, by rfl, by rfl, by rfl, by rfl, by rfl, by rfl, trivial⟩ ⟨by rfl, trivial⟩ ?_ ?_
    ·
      simp
    clear hs; rintro k w hJ hs
    simp only [List.nil_append] at hs
    refine WC.seq' ?_
    refine WC.seq ?_
    refine WL.p (by rfl) (Yl.move (by rfl)) ?_
    refine WL.p (by rfl) (Yl.move (by rfl)) ?_
    refine WL.p (by rfl) (Yl.len_sl slu31 (by rfl)) ?_
    refine WL.p (by rfl) (Yl.lss (by rfl) (by rfl)) ?_
    refine WL.next ?_
    refine WC.condS (by rfl) (fun h2 => ?_) (fun h2 => ?_)
    ·
      replace h2 := of_decide_eq_true h2
      obtain ⟨d, hd⟩ := exists_get (l := a.l) (k := k) (by omega)
      obtain ⟨d2, hd2⟩ := exists_get (l := b.l) (k := k) (by omega)
      rw [drop_cons hd, drop_cons hd2] at hJ
      refine WC.skipn ?_
      refine WC.seq' ?_
      refine WC.block ?_
      refine WC.quietn mixed (by kernel_rfl) hs ?_
      refine WQ.p (by rfl) (fun w hs => Yl.move (by rfl)) ?_
      refine WQ.p (by rfl) (fun w hs => Yl.move (by rfl)) ?_
      refine WQ.p (by rfl) (fun w hs => Yl.indexAddr slt31 (by rfl) (by rfl) (Ph.old h_a hs) (by rfl) (hd)) ?_
      refine WQ.p (by rfl) (fun w hs => Yl.loadC0 sca3 (by rfl) (Sl.Ok.at_ (Ph.old h_a hs) (by assumption)).2 (by rfl)) ?_
      refine WQ.p (by rfl) (fun w hs => Yl.move (by rfl)) ?_
      refine WQ.p (by rfl) (fun w hs => Yl.move (by rfl)) ?_
      refine WQ.p (by rfl) (fun w hs => Yl.indexAddr slt31 (by rfl) (by rfl) (Ph.old h_b hs) (by rfl) (hd2)) ?_
      refine WQ.p (by rfl) (fun w hs => Yl.loadC0 sca3 (by rfl) (Sl.Ok.at_ (Ph.old h_b hs) (by assumption)).2 (by rfl)) ?_
      refine WQ.p (by rfl) (fun w hs => Yl.nei (by rfl) (by rfl)) ?_
      refine WQ.next ?_
      clear hs; intro w hs
      refine WC.condS (by rfl) (fun h3 => ?_) (fun h3 => ?_)
      ·
        replace h3 := not_eq_true h3
        replace h3 := of_decide_eq_false h3
        refine WC.seq ?_
        refine WL.p (by rfl) (Yl.assign (by rfl)) ?_
        refine WL.next ?_
        refine WC.ret ?_
        refine At.blockret ?_
        refine At.thenret ?_
        refine At.thenret ?_
        refine At.blockret ?_
        refine At.thenret ?_
        refine fin1' rfl (by rfl) ?_
        refine RetP.mk hs ?_
        rw [hJ]; simp_all
      ·
        replace h3 := not_eq_false h3
        replace h3 := of_decide_eq_true h3
        refine WC.skip ?_
        refine At.blocknormal ?_
        refine At.then_ ?_
        refine WC.region ?_
        refine WL.p (by rfl) (Yl.move (by rfl)) ?_
        refine WL.p (by rfl) (Yl.add (by rfl) (by rfl) (by omega)) ?_
        refine WL.p (by rfl) (Yl.assign (by rfl)) ?_
        refine WL.nil ?_
        refine At.roundC (k + 1) (hs.only (by repeat (first | exact Sel.nil | (apply Sel.cons; (repeat (first | exact Ext.here | apply Ext.there)))))) ⟨by rfl, by rfl, by rfl, by rfl, by rfl, by rfl, by rfl, trivial⟩ ⟨by rfl, trivial⟩ ?_ ?_
        ·
          omega
        ·
          rw [hJ]; simp_all
    ·
      replace h2 := of_decide_eq_false h2
      rw [drop_out (l := a.l) (by omega), drop_out (l := b.l) (by omega)] at hJ
      refine WC.exit ?_
      refine At.thenexit ?_
      refine At.thenexit ?_
      refine At.blockexit ?_
      refine At.then_ ?_
      refine WC.seq ?_
      refine WL.p (by rfl) (Yl.assign (by rfl)) ?_
      refine WL.next ?_
      refine WC.ret ?_
      refine fin1' rfl (by rfl) ?_
      refine RetP.mk hs ?_
      rw [hJ]; simp_all

theorem c_spec_l6Same (a : PNode) (b : PNode) (w : World) (h_a : Ph.ok w a) (h_b : Ph.ok w b)  : Calls Try.prog 57 [.agg #[S a.name, S a.text, I a.parent, Sl.v a.attrs], .agg #[S b.name, S b.text, I b.parent, Sl.v b.attrs]].toArray w (RetP w (Bo (decide (a.lg = b.lg)))) := by
  have hw := h_a.attrs.lt
  refine enterN 52 Try.func57 rfl rfl rfl ?_
  have hs := Sat.start w
  refine WC.seq ?_
  refine WL.r (by rfl) (Yr.box hs (by rfl) (by rfl)) ?_
  clear hs; rintro _ w ⟨b1, rfl, hb, hs⟩; clear hb
  refine WL.r (by rfl) (Yr.box hs (by rfl) (by rfl)) ?_
  clear hs; rintro _ w ⟨b2, rfl, hb, hs⟩; clear hb
  refine WL.p (by rfl) (Yl.assign (by rfl)) ?_
  refine WL.next ?_
  refine WC.seq' ?_
  refine WC.seq ?_
  refine WL.p (by rfl) (Yl.fieldAddr fa106_0 (by rfl)) ?_
  refine WL.p (by rfl) (Yl.loadB sca9 (by rfl) hs (by repeat (first | exact List.mem_cons_self | apply List.mem_cons_of_mem)) (by rfl)) ?_
  refine WL.p (by rfl) (Yl.fieldAddr fa106_0 (by rfl)) ?_
  refine WL.p (by rfl) (Yl.loadB sca9 (by rfl) hs (by repeat (first | exact List.mem_cons_self | apply List.mem_cons_of_mem)) (by rfl)) ?_
  refine WL.p (by rfl) (Yl.nes (by rfl) (by rfl)) ?_
  refine WL.p (by rfl) (Yl.move (by rfl)) ?_
  refine WL.split (d := 11) (by rfl) (fun h1 => ?_) (fun h1 => ?_)
  ·
    replace h1 := not_eq_true h1
    replace h1 := of_decide_eq_false h1
    refine WL.skip (d := 11) (by rfl) (by rfl) (by rfl) (by rfl) ?_
    refine WL.skip (d := 11) (by rfl) (by rfl) (by rfl) (by rfl) ?_
    refine WL.skip (d := 11) (by rfl) (by rfl) (by rfl) (by rfl) ?_
    refine WL.skip (d := 11) (by rfl) (by rfl) (by rfl) (by rfl) ?_
    refine WL.skip (d := 11) (by rfl) (by rfl) (by rfl) (by rfl) ?_
    refine WL.p (by rfl) (Yl.pickT (by rfl) (by rfl)) ?_
    refine WL.p (by rfl) (Yl.move (by rfl)) ?_
    refine WL.skip (d := 18) (by rfl) (by rfl) (by rfl) (by rfl) ?_
    refine WL.skip (d := 18) (by rfl) (by rfl) (by rfl) (by rfl) ?_
    refine WL.skip (d := 18) (by rfl) (by rfl) (by rfl) (by rfl) ?_
    refine WL.skip (d := 18) (by rfl) (by rfl) (by rfl) (by rfl) ?_
    refine WL.skip (d := 18) (by rfl) (by rfl) (by rfl) (by rfl) ?_
    refine WL.p (by rfl) (Yl.pickT (by rfl) (by rfl)) ?_
    refine WL.p (by rfl) (Yl.move (by rfl)) ?_
    refine WL.skip (d := 25) (by rfl) (by rfl) (by rfl) (by rfl) ?_
    refine WL.skip (d := 25) (by rfl) (by rfl) (by rfl) (by rfl) ?_
    refine WL.skip (d := 25) (by rfl) (by rfl) (by rfl) (by rfl) ?_
    refine WL.skip (d := 25) (by rfl) (by rfl) (by rfl) (by rfl) ?_
    refine WL.skip (d := 25) (by rfl) (by rfl) (by rfl) (by rfl) ?_
    refine WL.skip (d := 25) (by rfl) (by rfl) (by rfl) (by rfl) ?_
    refine WL.skip (d := 25) (by rfl) (by rfl) (by rfl) (by rfl) ?_
    refine WL.p (by rfl) (Yl.pickT (by rfl) (by rfl)) ?_
    refine WL.next ?_
    refine WC.condT (by rfl) ?_
    refine WC.seq ?_
    refine WL.p (by rfl) (Yl.assign (by rfl)) ?_
    refine WL.next ?_
    refine WC.ret ?_
    refine At.thenret ?_
    refine fin1' rfl (by rfl) ?_
    refine RetP.mk hs ?_
    first
      | (rw [hJ]; simp_all; done)
      | (simp_all [TNode.ext_iff]; done)
      | (have hne : ¬ a.lg = b.lg := by
          intro h
          have h9 := congrArg (fun x => x.attrs.length) h
          simp at h9
          omega
         simp only [hne, decide_false])
  ·
    replace h1 := not_eq_false h1
    replace h1 := of_decide_eq_true h1
    refine WL.run (d := 11) (by rfl) (by rfl) ?_
    refine WL.p (by rfl) (Yl.fieldAddr fa106_1 (by rfl)) ?_
    refine WL.run (d := 11) (by rfl) (by rfl) ?_
    refine WL.p (by rfl) (Yl.loadB sca9 (by rfl) hs (by repeat (first | exact List.mem_cons_self | apply List.mem_cons_of_mem)) (by rfl)) ?_
    refine WL.run (d := 11) (by rfl) (by rfl) ?_
    refine WL.p (by rfl) (Yl.fieldAddr fa106_1 (by rfl)) ?_
    refine WL.run (d := 11) (by rfl) (by rfl) ?_
    refine WL.p (by rfl) (Yl.loadB sca9 (by rfl) hs (by repeat (first | exact List.mem_cons_self | apply List.mem_cons_of_mem)) (by rfl)) ?_
    refine WL.run (d := 11) (by rfl) (by rfl) ?_
    refine WL.p (by rfl) (Yl.nes (by rfl) (by rfl)) ?_
    refine WL.p (by rfl) (Yl.pickF (by rfl) (by rfl)) ?_
    refine WL.p (by rfl) (Yl.move (by rfl)) ?_
    refine WL.split (d := 18) (by rfl) (fun h2 => ?_) (fun h2 => ?_)
    ·
      replace h2 := not_eq_true h2
      replace h2 := of_decide_eq_false h2
      refine WL.skip (d := 18) (by rfl) (by rfl) (by rfl) (by rfl) ?_
      refine WL.skip (d := 18) (by rfl) (by rfl) (by rfl) (by rfl) ?_
      refine WL.skip (d := 18) (by rfl) (by rfl) (by rfl) (by rfl) ?_
      refine WL.skip (d := 18) (by rfl) (by rfl) (by rfl) (by rfl) ?_
      refine WL.skip (d := 18) (by rfl) (by rfl) (by rfl) (by rfl) ?_
      refine WL.p (by rfl) (Yl.pickT (by rfl) (by rfl)) ?_
      refine WL.p (by rfl) (Yl.move (by rfl)) ?_
      refine WL.skip (d := 25) (by rfl) (by rfl) (by rfl) (by rfl) ?_
      refine WL.skip (d := 25) (by rfl) (by rfl) (by rfl) (by rfl) ?_
      refine WL.skip (d := 25) (by rfl) (by rfl) (by rfl) (by rfl) ?_
      refine WL.skip (d := 25) (by rfl) (by rfl) (by rfl) (by rfl) ?_
      refine WL.skip (d := 25) (by rfl) (by rfl) (by rfl) (by rfl) ?_
      refine WL.skip (d := 25) (by rfl) (by rfl) (by rfl) (by rfl) ?_
      refine WL.skip (d := 25) (by rfl) (by rfl) (by rfl) (by rfl) ?_
      refine WL.p (by rfl) (Yl.pickT (by rfl) (by rfl)) ?_
      refine WL.next ?_
      refine WC.condT (by rfl) ?_
      refine WC.seq ?_
      refine WL.p (by rfl) (Yl.assign (by rfl)) ?_
      refine WL.next ?_
      refine WC.ret ?_
      refine At.thenret ?_
      refine fin1' rfl (by rfl) ?_
      refine RetP.mk hs ?_
      first
        | (rw [hJ]; simp_all; done)
        | (simp_all [TNode.ext_iff]; done)
        | (have hne : ¬ a.lg = b.lg := by
            intro h
            have h9 := congrArg (fun x => x.attrs.length) h
            simp at h9
            omega
           simp only [hne, decide_false])
    ·
      replace h2 := not_eq_false h2
      replace h2 := of_decide_eq_true h2
      refine WL.run (d := 18) (by rfl) (by rfl) ?_
      refine WL.p (by rfl) (Yl.fieldAddr fa106_2 (by rfl)) ?_
      refine WL.run (d := 18) (by rfl) (by rfl) ?_
      refine WL.p (by rfl) (Yl.loadB sca3 (by rfl) hs (by repeat (first | exact List.mem_cons_self | apply List.mem_cons_of_mem)) (by rfl)) ?_
      refine WL.run (d := 18) (by rfl) (by rfl) ?_
      refine WL.p (by rfl) (Yl.fieldAddr fa106_2 (by rfl)) ?_
      refine WL.run (d := 18) (by rfl) (by rfl) ?_
      refine WL.p (by rfl) (Yl.loadB sca3 (by rfl) hs (by repeat (first | exact List.mem_cons_self | apply List.mem_cons_of_mem)) (by rfl)) ?_
      refine WL.run (d := 18) (by rfl) (by rfl) ?_
      refine WL.p (by rfl) (Yl.nei (by rfl) (by rfl)) ?_
      refine WL.p (by rfl) (Yl.pickF (by rfl) (by rfl)) ?_
      refine WL.p (by rfl) (Yl.move (by rfl)) ?_
      refine WL.split (d := 25) (by rfl) (fun h3 => ?_) (fun h3 => ?_)
      ·
        replace h3 := not_eq_true h3
        replace h3 := of_decide_eq_false h3
        refine WL.skip (d := 25) (by rfl) (by rfl) (by rfl) (by rfl) ?_
        refine WL.skip (d := 25) (by rfl) (by rfl) (by rfl) (by rfl) ?_
        refine WL.skip (d := 25) (by rfl) (by rfl) (by rfl) (by rfl) ?_
        refine WL.skip (d := 25) (by rfl) (by rfl) (by rfl) (by rfl) ?_
        refine WL.skip (d := 25) (by rfl) (by rfl) (by rfl) (by rfl) ?_
        refine WL.skip (d := 25) (by rfl) (by rfl) (by rfl) (by rfl) ?_
        refine WL.skip (d := 25) (by rfl) (by rfl) (by rfl) (by rfl) ?_
        refine WL.p (by rfl) (Yl.pickT (by rfl) (by rfl)) ?_
        refine WL.next ?_
        refine WC.condT (by rfl) ?_
        refine WC.seq ?_
        refine WL.p (by rfl) (Yl.assign (by rfl)) ?_
        refine WL.next ?_
        refine WC.ret ?_
        refine At.thenret ?_
        refine fin1' rfl (by rfl) ?_
        refine RetP.mk hs ?_
        first
          | (rw [hJ]; simp_all; done)
          | (simp_all [TNode.ext_iff]; done)
          | (have hne : ¬ a.lg = b.lg := by
              intro h
              have h9 := congrArg (fun x => x.attrs.length) h
              simp at h9
              omega
             simp only [hne, decide_false])
      ·
        replace h3 := not_eq_false h3
        replace h3 := of_decide_eq_true h3
        refine WL.run (d := 25) (by rfl) (by rfl) ?_
        refine WL.p (by rfl) (Yl.fieldAddr fa106_3 (by rfl)) ?_
        refine WL.run (d := 25) (by rfl) (by rfl) ?_
        refine WL.p (by rfl) (Yl.loadB sca79 (by rfl) hs (by repeat (first | exact List.mem_cons_self | apply List.mem_cons_of_mem)) (by rfl)) ?_
        refine WL.run (d := 25) (by rfl) (by rfl) ?_
        refine WL.p (by rfl) (Yl.len_sl slu79 (by rfl)) ?_
        refine WL.run (d := 25) (by rfl) (by rfl) ?_
        refine WL.p (by rfl) (Yl.fieldAddr fa106_3 (by rfl)) ?_
        refine WL.run (d := 25) (by rfl) (by rfl) ?_
        refine WL.p (by rfl) (Yl.loadB sca79 (by rfl) hs (by repeat (first | exact List.mem_cons_self | apply List.mem_cons_of_mem)) (by rfl)) ?_
        refine WL.run (d := 25) (by rfl) (by rfl) ?_
        refine WL.p (by rfl) (Yl.len_sl slu79 (by rfl)) ?_
        refine WL.run (d := 25) (by rfl) (by rfl) ?_
        refine WL.p (by rfl) (Yl.nei (by rfl) (by rfl)) ?_
        refine WL.p (by rfl) (Yl.pickF (by rfl) (by rfl)) ?_
        refine WL.next ?_
        refine WC.condS (by rfl) (fun h4 => ?_) (fun h4 => ?_)
        ·
          replace h4 := not_eq_true h4
          replace h4 := of_decide_eq_false h4
          refine WC.seq ?_
          refine WL.p (by rfl) (Yl.assign (by rfl)) ?_
          refine WL.next ?_
          refine WC.ret ?_
          refine At.thenret ?_
          refine fin1' rfl (by rfl) ?_
          refine RetP.mk hs ?_
          first
            | (rw [hJ]; simp_all; done)
            | (simp_all [TNode.ext_iff]; done)
            | (have hne : ¬ a.lg = b.lg := by
                intro h
                have h9 := congrArg (fun x => x.attrs.length) h
                simp at h9
                omega
               simp only [hne, decide_false])
        ·
          replace h4 := not_eq_false h4
          replace h4 := of_decide_eq_true h4
          refine WC.skipn ?_
          refine WC.seq' ?_
          refine WC.seq ?_
          refine WL.p (by rfl) (Yl.assign (by rfl)) ?_
          refine WL.next ?_
          refine WC.block ?_
          refine WC.loopC (ι := Nat) (fun k => a.attrs.l.length - k) (fun k => [(5, I (k : Int))]) (fun _ => []) (fun k => decide (a.lg = b.lg) = decide (a.attrs.l.drop k = b.attrs.l.drop k)) [(0, _), (1, _), (2, _), (3, _), (6, _), (7, _), (8, _), (9, _), (10, _), (11, _), (12, _), (13, _), (14, _), (15, _), (16, _), (17, _), (18, _), (19, _), (20, _), (21, _), (22, _), (23, _), (24, _), (25, _), (26, _), (27, _), (28, _), (29, _), (30, _), (31, _), (32, _), (33, _)] 0 (hs) ⟨by rfl, by rfl, by rfl, by rfl, by rfl, by rfl, by rfl, by rfl, by rfl, by rfl, by rfl, by rfl, by rfl, by rfl, by rfl, by rfl, by rfl, by rfl, by rfl, by rfl, by rfl, by rfl, by rfl, by rfl, by rfl, by rfl, by rfl, by rfl, by rfl, by rfl, by rfl, by rfl, trivial⟩ ⟨by rfl, trivial⟩ ?_ ?_
          ·
            simp_all [TNode.ext_iff]
          clear hs; rintro k w hJ hs
          simp only [List.nil_append] at hs
          refine WC.seq' ?_
          refine WC.seq ?_
          refine WL.p (by rfl) (Yl.move (by rfl)) ?_
          refine WL.p (by rfl) (Yl.fieldAddr fa106_3 (by rfl)) ?_
          refine WL.p (by rfl) (Yl.loadB sca79 (by rfl) hs (by repeat (first | exact List.mem_cons_self | apply List.mem_cons_of_mem)) (by rfl)) ?_
          refine WL.p (by rfl) (Yl.len_sl slu79 (by rfl)) ?_
          refine WL.p (by rfl) (Yl.lss (by rfl) (by rfl)) ?_
          refine WL.next ?_
          refine WC.condS (by rfl) (fun h5 => ?_) (fun h5 => ?_)
          ·
            replace h5 := of_decide_eq_true h5
            obtain ⟨d, hd⟩ := exists_get (l := a.attrs.l) (k := k) (by omega)
            obtain ⟨d2, hd2⟩ := exists_get (l := b.attrs.l) (k := k) (by omega)
            rw [drop_cons hd, drop_cons hd2] at hJ
            refine WC.skipn ?_
            refine WC.seq' ?_
            refine WC.block ?_
            refine WC.quietn mixed (by kernel_rfl) hs ?_
            refine WQ.p (by rfl) (fun w hs => Yl.fieldAddr fa106_3 (by rfl)) ?_
            refine WQ.p (by rfl) (fun w hs => Yl.loadB sca79 (by rfl) hs (by repeat (first | exact List.mem_cons_self | apply List.mem_cons_of_mem)) (by rfl)) ?_
            refine WQ.p (by rfl) (fun w hs => Yl.move (by rfl)) ?_
            refine WQ.p (by rfl) (fun w hs => Yl.indexAddr slt79 (by rfl) (by rfl) (Ph.old h_a.attrs hs) (by rfl) (hd)) ?_
            refine WQ.p (by rfl) (fun w hs => Yl.loadA agg109 (by rfl) (Sl.Ok.at_ (Ph.old h_a.attrs hs) (by assumption)).2 (by rfl)) ?_
            refine WQ.p (by rfl) (fun w hs => Yl.fieldAddr fa106_3 (by rfl)) ?_
            refine WQ.p (by rfl) (fun w hs => Yl.loadB sca79 (by rfl) hs (by repeat (first | exact List.mem_cons_self | apply List.mem_cons_of_mem)) (by rfl)) ?_
            refine WQ.p (by rfl) (fun w hs => Yl.move (by rfl)) ?_
            refine WQ.p (by rfl) (fun w hs => Yl.indexAddr slt79 (by rfl) (by rfl) (Ph.old h_b.attrs hs) (by rfl) (hd2)) ?_
            refine WQ.p (by rfl) (fun w hs => Yl.loadA agg109 (by rfl) (Sl.Ok.at_ (Ph.old h_b.attrs hs) (by assumption)).2 (by rfl)) ?_
            refine WQ.p (by rfl) (fun w hs => Yl.net eqt109 (by rfl) (by rfl)) ?_
            refine WQ.next ?_
            clear hs; intro w hs
            refine WC.condS (by rfl) (fun h6 => ?_) (fun h6 => ?_)
            ·
              replace h6 := not_eq_true h6
              replace h6 := of_decide_eq_false h6
              refine WC.seq ?_
              refine WL.p (by rfl) (Yl.assign (by rfl)) ?_
              refine WL.next ?_
              refine WC.ret ?_
              refine At.blockret ?_
              refine At.thenret ?_
              refine At.thenret ?_
              refine At.blockret ?_
              refine At.thenret ?_
              refine fin1' rfl (by rfl) ?_
              refine RetP.mk hs ?_
              first
                | (rw [hJ]; simp_all; done)
                | (simp_all [TNode.ext_iff]; done)
                | (have hne : ¬ a.lg = b.lg := by
                    intro h
                    have h9 := congrArg (fun x => x.attrs.length) h
                    simp at h9
                    omega
                   simp only [hne, decide_false])
            ·
              replace h6 := not_eq_false h6
              replace h6 := of_decide_eq_true h6
              refine WC.skip ?_
              refine At.blocknormal ?_
              refine At.then_ ?_
              refine WC.region ?_
              refine WL.p (by rfl) (Yl.move (by rfl)) ?_
              refine WL.p (by rfl) (Yl.add (by rfl) (by rfl) (by omega)) ?_
              refine WL.p (by rfl) (Yl.assign (by rfl)) ?_
              refine WL.nil ?_
              refine At.roundC (k + 1) (hs.only (by repeat (first | exact Sel.nil | (apply Sel.cons; (repeat (first | exact Ext.here | apply Ext.there)))))) ⟨by rfl, by rfl, by rfl, by rfl, by rfl, by rfl, by rfl, by rfl, by rfl, by rfl, by rfl, by rfl, by rfl, by rfl, by rfl, by rfl, by rfl, by rfl, by rfl, by rfl, by rfl, by rfl, by rfl, by rfl, by rfl, by rfl, by rfl, by rfl, by rfl, by rfl, by rfl, by rfl, trivial⟩ ⟨by rfl, trivial⟩ ?_ ?_
              ·
                omega
              ·
                rw [hJ]; simp_all
          ·
            replace h5 := of_decide_eq_false h5
            rw [drop_out (l := a.attrs.l) (by omega), drop_out (l := b.attrs.l) (by omega)] at hJ
            refine WC.exit ?_
            refine At.thenexit ?_
            refine At.thenexit ?_
            refine At.blockexit ?_
            refine At.then_ ?_
            refine WC.seq ?_
            refine WL.p (by rfl) (Yl.assign (by rfl)) ?_
            refine WL.next ?_
            refine WC.ret ?_
            refine fin1' rfl (by rfl) ?_
            refine RetP.mk hs ?_
            first
              | (rw [hJ]; simp_all; done)
              | (simp_all [TNode.ext_iff]; done)
              | (have hne : ¬ a.lg = b.lg := by
                  intro h
                  have h9 := congrArg (fun x => x.attrs.length) h
                  simp at h9
                  omega
                 simp only [hne, decide_false])

theorem c_spec_EqualBuilders (a : PBuilder) (b : PBuilder) (w : World) (h_a : Ph.ok w a) (h_b : Ph.ok w b)  : Calls Try.prog 19 [.agg #[Sl.v a.nodes, Sl.v a.opn], .agg #[Sl.v b.nodes, Sl.v b.opn]].toArray w (RetP w (Bo (decide (a.lg = b.lg)))) := by
  have hw := h_a.nodes.lt
  refine enterN 40 Try.func19 rfl rfl rfl ?_
  have hs := Sat.start w
  refine WC.seq ?_
  refine WL.r (by rfl) (Yr.box hs (by rfl) (by rfl)) ?_
  clear hs; rintro _ w ⟨b1, rfl, hb, hs⟩; clear hb
  refine WL.r (by rfl) (Yr.box hs (by rfl) (by rfl)) ?_
  clear hs; rintro _ w ⟨b2, rfl, hb, hs⟩; clear hb
  refine WL.p (by rfl) (Yl.assign (by rfl)) ?_
  refine WL.next ?_
  refine WC.seq' ?_
  refine WC.seq ?_
  refine WL.p (by rfl) (Yl.fieldAddr fa47_0 (by rfl)) ?_
  refine WL.p (by rfl) (Yl.loadB sca45 (by rfl) hs (by repeat (first | exact List.mem_cons_self | apply List.mem_cons_of_mem)) (by rfl)) ?_
  refine WL.p (by rfl) (Yl.len_sl slu45 (by rfl)) ?_
  refine WL.p (by rfl) (Yl.fieldAddr fa47_0 (by rfl)) ?_
  refine WL.p (by rfl) (Yl.loadB sca45 (by rfl) hs (by repeat (first | exact List.mem_cons_self | apply List.mem_cons_of_mem)) (by rfl)) ?_
  refine WL.p (by rfl) (Yl.len_sl slu45 (by rfl)) ?_
  refine WL.p (by rfl) (Yl.nei (by rfl) (by rfl)) ?_
  refine WL.p (by rfl) (Yl.move (by rfl)) ?_
  refine WL.split (d := 13) (by rfl) (fun h1 => ?_) (fun h1 => ?_)
  ·
    replace h1 := not_eq_true h1
    replace h1 := of_decide_eq_false h1
    refine WL.skip (d := 13) (by rfl) (by rfl) (by rfl) (by rfl) ?_
    refine WL.skip (d := 13) (by rfl) (by rfl) (by rfl) (by rfl) ?_
    refine WL.skip (d := 13) (by rfl) (by rfl) (by rfl) (by rfl) ?_
    refine WL.skip (d := 13) (by rfl) (by rfl) (by rfl) (by rfl) ?_
    refine WL.skip (d := 13) (by rfl) (by rfl) (by rfl) (by rfl) ?_
    refine WL.skip (d := 13) (by rfl) (by rfl) (by rfl) (by rfl) ?_
    refine WL.p (by rfl) (Yl.pickT (by rfl) (by rfl)) ?_
    refine WL.next ?_
    refine WC.condT (by rfl) ?_
    refine WC.seq ?_
    refine WL.p (by rfl) (Yl.assign (by rfl)) ?_
    refine WL.next ?_
    refine WC.ret ?_
    refine At.thenret ?_
    refine fin1' rfl (by rfl) ?_
    refine RetP.mk hs ?_
    first
      | (rw [hJ]; simp_all; done)
      | (simp_all [TBuilder.ext_iff]; done)
      | (have hne : ¬ a.lg = b.lg := by
          intro h
          have h9 := congrArg (fun x => x.nodes.length) h
          simp at h9
          omega
         simp only [hne, decide_false])
  ·
    replace h1 := not_eq_false h1
    replace h1 := of_decide_eq_true h1
    refine WL.run (d := 13) (by rfl) (by rfl) ?_
    refine WL.p (by rfl) (Yl.fieldAddr fa47_1 (by rfl)) ?_
    refine WL.run (d := 13) (by rfl) (by rfl) ?_
    refine WL.p (by rfl) (Yl.loadB sca31 (by rfl) hs (by repeat (first | exact List.mem_cons_self | apply List.mem_cons_of_mem)) (by rfl)) ?_
    refine WL.run (d := 13) (by rfl) (by rfl) ?_
    refine WL.p (by rfl) (Yl.fieldAddr fa47_1 (by rfl)) ?_
    refine WL.run (d := 13) (by rfl) (by rfl) ?_
    refine WL.p (by rfl) (Yl.loadB sca31 (by rfl) hs (by repeat (first | exact List.mem_cons_self | apply List.mem_cons_of_mem)) (by rfl)) ?_
    refine WL.run (d := 13) (by rfl) (by rfl) ?_
    refine WL.callp hs (by rfl) (Yc.func (by rfl) fn56) (c_spec_EqualInts _ _ _ (Ph.old h_a.opn hs) (Ph.old h_b.opn hs)) ?_
    clear hs; intro w hs
    refine WL.run (d := 13) (by rfl) (by rfl) ?_
    refine WL.p (by rfl) (Yl.not (by rfl)) ?_
    refine WL.p (by rfl) (Yl.pickF (by rfl) (by rfl)) ?_
    refine WL.next ?_
    refine WC.condS (by rfl) (fun h2 => ?_) (fun h2 => ?_)
    ·
      replace h2 := not_eq_true h2
      replace h2 := of_decide_eq_false h2
      refine WC.seq ?_
      refine WL.p (by rfl) (Yl.assign (by rfl)) ?_
      refine WL.next ?_
      refine WC.ret ?_
      refine At.thenret ?_
      refine fin1' rfl (by rfl) ?_
      refine RetP.mk hs ?_
      first
        | (rw [hJ]; simp_all; done)
        | (simp_all [TBuilder.ext_iff]; done)
        | (have hne : ¬ a.lg = b.lg := by
            intro h
            have h9 := congrArg (fun x => x.nodes.length) h
            simp at h9
            omega
           simp only [hne, decide_false])
    ·
      replace h2 := not_eq_false h2
      replace h2 := of_decide_eq_true h2
      refine WC.skipn ?_
      refine WC.seq' ?_
      refine WC.seq ?_
      refine WL.p (by rfl) (Yl.assign (by rfl)) ?_
      refine WL.next ?_
      refine WC.block ?_
      refine WC.loopC (ι := Nat) (fun k => a.nodes.l.length - k) (fun k => [(5, I (k : Int))]) (fun _ => []) (fun k => decide (a.lg = b.lg) = decide ((a.nodes.l.drop k).map PNode.lg = (b.nodes.l.drop k).map PNode.lg)) [(0, _), (1, _), (2, _), (3, _), (6, _), (7, _), (8, _), (9, _), (10, _), (11, _), (12, _), (13, _), (14, _), (15, _), (16, _), (17, _), (18, _), (19, _), (20, _)] 0 (hs) ⟨by rfl, by rfl, by rfl, by rfl, by rfl, by rfl, by rfl, by rfl, by rfl, by rfl, by rfl, by rfl, by rfl, by rfl, by rfl, by rfl, by rfl, by rfl, by rfl, trivial⟩ ⟨by rfl, trivial⟩ ?_ ?_
      ·
        simp_all [TBuilder.ext_iff]
      clear hs; rintro k w hJ hs
      simp only [List.nil_append] at hs
      refine WC.seq' ?_
      refine WC.seq ?_
      refine WL.p (by rfl) (Yl.move (by rfl)) ?_
      refine WL.p (by rfl) (Yl.fieldAddr fa47_0 (by rfl)) ?_
      refine WL.p (by rfl) (Yl.loadB sca45 (by rfl) hs (by repeat (first | exact List.mem_cons_self | apply List.mem_cons_of_mem)) (by rfl)) ?_
      refine WL.p (by rfl) (Yl.len_sl slu45 (by rfl)) ?_
      refine WL.p (by rfl) (Yl.lss (by rfl) (by rfl)) ?_
      refine WL.next ?_
      refine WC.condS (by rfl) (fun h3 => ?_) (fun h3 => ?_)
      ·
        replace h3 := of_decide_eq_true h3
        obtain ⟨d, hd⟩ := exists_get (l := a.nodes.l) (k := k) (by omega)
        obtain ⟨d2, hd2⟩ := exists_get (l := b.nodes.l) (k := k) (by omega)
        rw [drop_cons hd, drop_cons hd2] at hJ
        refine WC.skipn ?_
        refine WC.seq' ?_
        refine WC.block ?_
        refine WC.quietn mixed (by kernel_rfl) hs ?_
        refine WQ.p (by rfl) (fun w hs => Yl.fieldAddr fa47_0 (by rfl)) ?_
        refine WQ.p (by rfl) (fun w hs => Yl.loadB sca45 (by rfl) hs (by repeat (first | exact List.mem_cons_self | apply List.mem_cons_of_mem)) (by rfl)) ?_
        refine WQ.p (by rfl) (fun w hs => Yl.move (by rfl)) ?_
        refine WQ.p (by rfl) (fun w hs => Yl.indexAddr slt45 (by rfl) (by rfl) (Ph.old h_a.nodes hs) (by rfl) (hd)) ?_
        refine WQ.p (by rfl) (fun w hs => Yl.loadA agg106 (by rfl) (Sl.Ok.at_ (Ph.old h_a.nodes hs) (by assumption)).2 (by rfl)) ?_
        refine WQ.p (by rfl) (fun w hs => Yl.fieldAddr fa47_0 (by rfl)) ?_
        refine WQ.p (by rfl) (fun w hs => Yl.loadB sca45 (by rfl) hs (by repeat (first | exact List.mem_cons_self | apply List.mem_cons_of_mem)) (by rfl)) ?_
        refine WQ.p (by rfl) (fun w hs => Yl.move (by rfl)) ?_
        refine WQ.p (by rfl) (fun w hs => Yl.indexAddr slt45 (by rfl) (by rfl) (Ph.old h_b.nodes hs) (by rfl) (hd2)) ?_
        refine WQ.p (by rfl) (fun w hs => Yl.loadA agg106 (by rfl) (Sl.Ok.at_ (Ph.old h_b.nodes hs) (by assumption)).2 (by rfl)) ?_
        refine WQ.callp (by rfl) (fun w => Yc.func (by rfl) fn57) (fun w hs => (c_spec_l6Same _ _ _ (Ph.old (Sl.Ok.elem h_a.nodes hd) hs) (Ph.old (Sl.Ok.elem h_b.nodes hd2) hs))) (fun _ _ hs hb => hs.ext hb) ?_
        refine WQ.p (by rfl) (fun w hs => Yl.not (by rfl)) ?_
        refine WQ.next ?_
        clear hs; intro w hs
        refine WC.condS (by rfl) (fun h4 => ?_) (fun h4 => ?_)
        ·
          replace h4 := not_eq_true h4
          replace h4 := of_decide_eq_false h4
          refine WC.seq ?_
          refine WL.p (by rfl) (Yl.assign (by rfl)) ?_
          refine WL.next ?_
          refine WC.ret ?_
          refine At.blockret ?_
          refine At.thenret ?_
          refine At.thenret ?_
          refine At.blockret ?_
          refine At.thenret ?_
          refine fin1' rfl (by rfl) ?_
          refine RetP.mk hs ?_
          first
            | (rw [hJ]; simp_all; done)
            | (simp_all [TBuilder.ext_iff]; done)
            | (have hne : ¬ a.lg = b.lg := by
                intro h
                have h9 := congrArg (fun x => x.nodes.length) h
                simp at h9
                omega
               simp only [hne, decide_false])
        ·
          replace h4 := not_eq_false h4
          replace h4 := of_decide_eq_true h4
          refine WC.skip ?_
          refine At.blocknormal ?_
          refine At.then_ ?_
          refine WC.region ?_
          refine WL.p (by rfl) (Yl.move (by rfl)) ?_
          refine WL.p (by rfl) (Yl.add (by rfl) (by rfl) (by omega)) ?_
          refine WL.p (by rfl) (Yl.assign (by rfl)) ?_
          refine WL.nil ?_
          refine At.roundC (k + 1) (hs.only (by repeat (first | exact Sel.nil | (apply Sel.cons; (repeat (first | exact Ext.here | apply Ext.there)))))) ⟨by rfl, by rfl, by rfl, by rfl, by rfl, by rfl, by rfl, by rfl, by rfl, by rfl, by rfl, by rfl, by rfl, by rfl, by rfl, by rfl, by rfl, by rfl, by rfl, trivial⟩ ⟨by rfl, trivial⟩ ?_ ?_
          ·
            omega
          ·
            rw [hJ]; simp_all
      ·
        replace h3 := of_decide_eq_false h3
        rw [drop_out (l := a.nodes.l) (by omega), drop_out (l := b.nodes.l) (by omega)] at hJ
        refine WC.exit ?_
        refine At.thenexit ?_
        refine At.thenexit ?_
        refine At.blockexit ?_
        refine At.then_ ?_
        refine WC.seq ?_
        refine WL.p (by rfl) (Yl.assign (by rfl)) ?_
        refine WL.next ?_
        refine WC.ret ?_
        refine fin1' rfl (by rfl) ?_
        refine RetP.mk hs ?_
        first
          | (rw [hJ]; simp_all; done)
          | (simp_all [TBuilder.ext_iff]; done)
          | (have hne : ¬ a.lg = b.lg := by
              intro h
              have h9 := congrArg (fun x => x.nodes.length) h
              simp at h9
              omega
             simp only [hne, decide_false])

theorem c_spec_FormatToken (t : PToken) (w : World) (h_t : Ph.ok w t) (hb : t.lg.size ≤ 1048576) : Calls Try.prog 58 [.agg #[I t.kind, S t.name, Sl.v t.attrs, S t.text]].toArray w (RetP w (S (fmtTok t.lg))) := by
  have hw := h_t.attrs.lt
  have hbb := hb
  simp only [TToken.size] at hbb
  refine enterN 48 Try.func58 rfl rfl rfl ?_
  have hs := Sat.start w
  refine WC.seq ?_
  refine WL.r (by rfl) (Yr.box hs (by rfl) (by rfl)) ?_
  clear hs; rintro _ w ⟨b1, rfl, hb, hs⟩; clear hb
  refine WL.p (by rfl) (Yl.assign (by rfl)) ?_
  refine WL.next ?_
  refine WC.seq' ?_
  refine WC.seq ?_
  refine WL.p (by rfl) (Yl.fieldAddr fa81_0 (by rfl)) ?_
  refine WL.p (by rfl) (Yl.loadB sca3 (by rfl) hs (by repeat (first | exact List.mem_cons_self | apply List.mem_cons_of_mem)) (by rfl)) ?_
  refine WL.next ?_
  refine WC.block ?_
  refine WC.seq ?_
  refine WL.p (by rfl) (Yl.eqi (by rfl) (by rfl)) ?_
  refine WL.p (by rfl) (Yl.assign (by rfl)) ?_
  refine WL.next ?_
  refine WC.condS (by rfl) (fun h1 => ?_) (fun h1 => ?_)
  ·
    replace h1 := of_decide_eq_true h1
    refine WC.seq ?_
    refine WL.p (by rfl) (Yl.fieldAddr fa81_1 (by rfl)) ?_
    refine WL.p (by rfl) (Yl.loadB sca9 (by rfl) hs (by repeat (first | exact List.mem_cons_self | apply List.mem_cons_of_mem)) (by rfl)) ?_
    refine WL.p (by rfl) (Yl.cat (by rfl) (by rfl) (by simp only [List.length_append, List.length_cons, List.length_nil] at *; omega)) ?_
    refine WL.p (by rfl) (Yl.assign (by rfl)) ?_
    refine WL.next ?_
    refine WC.seq' ?_
    refine WC.seq ?_
    refine WL.p (by rfl) (Yl.assign (by rfl)) ?_
    refine WL.next ?_
    refine WC.block ?_
    refine WC.loopC (ι := Nat × Str) (fun ⟨k, s⟩ => t.attrs.l.length - k) (fun ⟨k, s⟩ => [(4, I (k : Int)), (3, S s)]) (fun _ => []) (fun ⟨k, s⟩ => fmtAttrs ([60] ++ t.name) t.attrs.l = fmtAttrs s (t.attrs.l.drop k) ∧ s.length + 2 * lsz TAttr.size (t.attrs.l.drop k) ≤ 4000000) [(0, _), (1, _), (2, _), (5, _), (6, _), (7, _), (8, _), (9, _), (10, _), (11, _)] (0, [60] ++ t.name) (hs) ⟨by rfl, by rfl, by rfl, by rfl, by rfl, by rfl, by rfl, by rfl, by rfl, by rfl, trivial⟩ ⟨by rfl, by rfl, trivial⟩ ?_ ?_
    ·
      exact ⟨by simp, by simp; omega⟩
    clear hs; rintro ⟨k, s⟩ w ⟨hJ1, hJ2⟩ hs
    simp only [List.nil_append] at hs
    refine WC.seq' ?_
    refine WC.seq ?_
    refine WL.p (by rfl) (Yl.move (by rfl)) ?_
    refine WL.p (by rfl) (Yl.fieldAddr fa81_2 (by rfl)) ?_
    refine WL.p (by rfl) (Yl.loadB sca79 (by rfl) hs (by repeat (first | exact List.mem_cons_self | apply List.mem_cons_of_mem)) (by rfl)) ?_
    refine WL.p (by rfl) (Yl.len_sl slu79 (by rfl)) ?_
    refine WL.p (by rfl) (Yl.lss (by rfl) (by rfl)) ?_
    refine WL.next ?_
    refine WC.condS (by rfl) (fun h2 => ?_) (fun h2 => ?_)
    ·
      replace h2 := of_decide_eq_true h2
      obtain ⟨d, hd⟩ := exists_get (l := t.attrs.l) (k := k) (by omega)
      rw [drop_cons hd] at hJ1 hJ2
      simp only [lsz_cons, TAttr.size] at hJ2
      refine WC.skipn ?_
      refine WC.seq' ?_
      refine WC.block ?_
      refine WC.quiet mixed (by kernel_rfl) hs ?_
      refine WQ.p (by rfl) (fun w hs => Yl.move (by rfl)) ?_
      refine WQ.p (by rfl) (fun w hs => Yl.cat (by rfl) (by rfl) (by simp only [List.length_append, List.length_cons, List.length_nil] at *; omega)) ?_
      refine WQ.p (by rfl) (fun w hs => Yl.fieldAddr fa81_2 (by rfl)) ?_
      refine WQ.p (by rfl) (fun w hs => Yl.loadB sca79 (by rfl) hs (by repeat (first | exact List.mem_cons_self | apply List.mem_cons_of_mem)) (by rfl)) ?_
      refine WQ.p (by rfl) (fun w hs => Yl.move (by rfl)) ?_
      refine WQ.p (by rfl) (fun w hs => Yl.indexAddr slt79 (by rfl) (by rfl) (Ph.old h_t.attrs hs) (by rfl) (hd)) ?_
      refine WQ.p (by rfl) (fun w hs => Yl.fieldAddr fa109_0 (by rfl)) ?_
      refine WQ.p (by rfl) (fun w hs => Yl.loadC sca9 (by rfl) (Sl.Ok.at_ (Ph.old h_t.attrs hs) (by assumption)).2 (by rfl)) ?_
      refine WQ.p (by rfl) (fun w hs => Yl.cat (by rfl) (by rfl) (by simp only [List.length_append, List.length_cons, List.length_nil] at *; omega)) ?_
      refine WQ.p (by rfl) (fun w hs => Yl.cat (by rfl) (by rfl) (by simp only [List.length_append, List.length_cons, List.length_nil] at *; omega)) ?_
      refine WQ.p (by rfl) (fun w hs => Yl.fieldAddr fa81_2 (by rfl)) ?_
      refine WQ.p (by rfl) (fun w hs => Yl.loadB sca79 (by rfl) hs (by repeat (first | exact List.mem_cons_self | apply List.mem_cons_of_mem)) (by rfl)) ?_
      refine WQ.p (by rfl) (fun w hs => Yl.move (by rfl)) ?_
      refine WQ.p (by rfl) (fun w hs => Yl.indexAddr slt79 (by rfl) (by rfl) (Ph.old h_t.attrs hs) (by rfl) (hd)) ?_
      refine WQ.p (by rfl) (fun w hs => Yl.fieldAddr fa109_1 (by rfl)) ?_
      refine WQ.p (by rfl) (fun w hs => Yl.loadC sca9 (by rfl) (Sl.Ok.at_ (Ph.old h_t.attrs hs) (by assumption)).2 (by rfl)) ?_
      refine WQ.p (by rfl) (fun w hs => Yl.cat (by rfl) (by rfl) (by simp only [List.length_append, List.length_cons, List.length_nil] at *; omega)) ?_
      refine WQ.p (by rfl) (fun w hs => Yl.assign (by rfl)) ?_
      refine WQ.last ?_
      clear hs; intro w hs
      refine At.blocknormal ?_
      refine At.then_ ?_
      refine WC.region ?_
      refine WL.p (by rfl) (Yl.move (by rfl)) ?_
      refine WL.p (by rfl) (Yl.add (by rfl) (by rfl) (by omega)) ?_
      refine WL.p (by rfl) (Yl.assign (by rfl)) ?_
      refine WL.nil ?_
      refine At.roundC (k + 1, s ++ [32] ++ d.name ++ [61] ++ d.value) (hs.only (by repeat (first | exact Sel.nil | (apply Sel.cons; (repeat (first | exact Ext.here | apply Ext.there)))))) ⟨by rfl, by rfl, by rfl, by rfl, by rfl, by rfl, by rfl, by rfl, by rfl, by rfl, trivial⟩ ⟨by rfl, by rfl, trivial⟩ ?_ ?_
      ·
        show t.attrs.l.length - (k + 1) < t.attrs.l.length - k
        omega
      ·
        exact ⟨hJ1, by simp; omega⟩
    ·
      replace h2 := of_decide_eq_false h2
      rw [drop_out (l := t.attrs.l) (by omega)] at hJ1 hJ2
      simp only [lsz_nil] at hJ2
      refine WC.exit ?_
      refine At.thenexit ?_
      refine At.thenexit ?_
      refine At.blockexit ?_
      refine At.then_ ?_
      refine WC.seq ?_
      refine WL.p (by rfl) (Yl.move (by rfl)) ?_
      refine WL.p (by rfl) (Yl.cat (by rfl) (by rfl) (by simp only [List.length_append, List.length_cons, List.length_nil] at *; omega)) ?_
      refine WL.p (by rfl) (Yl.assign (by rfl)) ?_
      refine WL.next ?_
      refine WC.ret ?_
      refine At.blockret ?_
      refine At.thenret ?_
      refine fin1' rfl (by rfl) ?_
      refine RetP.mk hs ?_
      simp only [fmtTok]; rw [if_pos (by assumption), hJ1]; rfl
  ·
    replace h1 := of_decide_eq_false h1
    refine WC.seq ?_
    refine WL.p (by rfl) (Yl.eqi (by rfl) (by rfl)) ?_
    refine WL.p (by rfl) (Yl.assign (by rfl)) ?_
    refine WL.next ?_
    refine WC.condS (by rfl) (fun h2 => ?_) (fun h2 => ?_)
    ·
      replace h2 := of_decide_eq_true h2
      refine WC.seq ?_
      refine WL.p (by rfl) (Yl.fieldAddr fa81_1 (by rfl)) ?_
      refine WL.p (by rfl) (Yl.loadB sca9 (by rfl) hs (by repeat (first | exact List.mem_cons_self | apply List.mem_cons_of_mem)) (by rfl)) ?_
      refine WL.p (by rfl) (Yl.cat (by rfl) (by rfl) (by simp only [List.length_append, List.length_cons, List.length_nil] at *; omega)) ?_
      refine WL.p (by rfl) (Yl.cat (by rfl) (by rfl) (by simp only [List.length_append, List.length_cons, List.length_nil] at *; omega)) ?_
      refine WL.p (by rfl) (Yl.assign (by rfl)) ?_
      refine WL.next ?_
      refine WC.ret ?_
      refine At.blockret ?_
      refine At.thenret ?_
      refine fin1' rfl (by rfl) ?_
      refine RetP.mk hs ?_
      simp_all [fmtTok]
    ·
      replace h2 := of_decide_eq_false h2
      refine WC.seq ?_
      refine WL.p (by rfl) (Yl.eqi (by rfl) (by rfl)) ?_
      refine WL.p (by rfl) (Yl.assign (by rfl)) ?_
      refine WL.next ?_
      refine WC.condS (by rfl) (fun h3 => ?_) (fun h3 => ?_)
      ·
        replace h3 := of_decide_eq_true h3
        refine WC.seq ?_
        refine WL.p (by rfl) (Yl.fieldAddr fa81_3 (by rfl)) ?_
        refine WL.p (by rfl) (Yl.loadB sca9 (by rfl) hs (by repeat (first | exact List.mem_cons_self | apply List.mem_cons_of_mem)) (by rfl)) ?_
        refine WL.p (by rfl) (Yl.assign (by rfl)) ?_
        refine WL.next ?_
        refine WC.ret ?_
        refine At.blockret ?_
        refine At.thenret ?_
        refine fin1' rfl (by rfl) ?_
        refine RetP.mk hs ?_
        simp_all [fmtTok]
      ·
        replace h3 := of_decide_eq_false h3
        refine WC.skip ?_
        refine At.blocknormal ?_
        refine At.then_ ?_
        refine WC.seq ?_
        refine WL.p (by rfl) (Yl.assign (by rfl)) ?_
        refine WL.next ?_
        refine WC.ret ?_
        refine fin1' rfl (by rfl) ?_
        refine RetP.mk hs ?_
        simp_all [fmtTok]

theorem c_spec_l15SameTokens (a : (Sl PToken)) (b : (Sl PToken)) (w : World) (h_a : Ph.ok w a) (h_b : Ph.ok w b) (hb1 : lsz (fun x : PToken => x.lg.size) a.l ≤ 1048576) (hb2 : lsz (fun x : PToken => x.lg.size) b.l ≤ 1048576) : Calls Try.prog 20 [Sl.v a, Sl.v b].toArray w (RetP w (Bo (decide (a.l.map PToken.lg = b.l.map PToken.lg)))) := by
  have hw := h_a.lt
  refine enterN 110 Try.func20 rfl rfl rfl ?_
  have hs := Sat.start w
  refine WC.seq ?_
  refine WL.p (by rfl) (Yl.assign (by rfl)) ?_
  refine WL.next ?_
  refine WC.seq' ?_
  refine WC.seq ?_
  refine WL.p (by rfl) (Yl.move (by rfl)) ?_
  refine WL.p (by rfl) (Yl.len_sl slu44 (by rfl)) ?_
  refine WL.p (by rfl) (Yl.move (by rfl)) ?_
  refine WL.p (by rfl) (Yl.len_sl slu44 (by rfl)) ?_
  refine WL.p (by rfl) (Yl.nei (by rfl) (by rfl)) ?_
  refine WL.next ?_
  refine WC.condS (by rfl) (fun h1 => ?_) (fun h1 => ?_)
  ·
    replace h1 := not_eq_true h1
    replace h1 := of_decide_eq_false h1
    refine WC.seq ?_
    refine WL.p (by rfl) (Yl.assign (by rfl)) ?_
    refine WL.next ?_
    refine WC.ret ?_
    refine At.thenret ?_
    refine fin1' rfl (by rfl) ?_
    refine RetP.mk hs ?_
    have hne : ¬ a.l.map PToken.lg = b.l.map PToken.lg := by
      intro h
      have h9 := congrArg List.length h
      simp at h9
      omega
    simp only [hne, decide_false]
  ·
    replace h1 := not_eq_false h1
    replace h1 := of_decide_eq_true h1
    refine WC.skipn ?_
    refine WC.seq' ?_
    refine WC.seq ?_
    refine WL.p (by rfl) (Yl.assign (by rfl)) ?_
    refine WL.next ?_
    refine WC.block ?_
    refine WC.loopC (ι := Nat) (fun k => a.l.length - k) (fun k => [(5, I (k : Int))]) (fun _ => []) (fun k => decide (a.l.map PToken.lg = b.l.map PToken.lg) = decide ((a.l.drop k).map PToken.lg = (b.l.drop k).map PToken.lg)) [(0, _), (1, _), (7, _), (8, _), (9, _), (10, _), (11, _)] 0 (hs) ⟨by rfl, by rfl, by rfl, by rfl, by rfl, by rfl, by rfl, trivial⟩ ⟨by rfl, trivial⟩ ?_ ?_
    ·
      simp
    clear hs; rintro k w hJ hs
    simp only [List.nil_append] at hs
    refine WC.seq' ?_
    refine WC.seq ?_
    refine WL.p (by rfl) (Yl.move (by rfl)) ?_
    refine WL.p (by rfl) (Yl.move (by rfl)) ?_
    refine WL.p (by rfl) (Yl.len_sl slu44 (by rfl)) ?_
    refine WL.p (by rfl) (Yl.lss (by rfl) (by rfl)) ?_
    refine WL.next ?_
    refine WC.condS (by rfl) (fun h2 => ?_) (fun h2 => ?_)
    ·
      replace h2 := of_decide_eq_true h2
      obtain ⟨d, hd⟩ := exists_get (l := a.l) (k := k) (by omega)
      obtain ⟨d2, hd2⟩ := exists_get (l := b.l) (k := k) (by omega)
      rw [drop_cons hd, drop_cons hd2] at hJ
      have hle : d.lg.size ≤ 1048576 := by have := lsum_le (f := fun x : PToken => x.lg.size) (List.mem_of_getElem? hd); simp only [lsz] at hb1; omega
      have hle2 : d2.lg.size ≤ 1048576 := by have := lsum_le (f := fun x : PToken => x.lg.size) (List.mem_of_getElem? hd2); simp only [lsz] at hb2; omega
      have hwd := (Sl.Ok.elem h_a hd).attrs.lt
      refine WC.skipn ?_
      refine WC.seq' ?_
      refine WC.block ?_
      refine WC.seq' ?_
      refine WC.quietn mixed (by kernel_rfl) hs ?_
      refine WQ.p (by rfl) (fun w hs => Yl.move (by rfl)) ?_
      refine WQ.p (by rfl) (fun w hs => Yl.move (by rfl)) ?_
      refine WQ.p (by rfl) (fun w hs => Yl.indexAddr slt44 (by rfl) (by rfl) (Ph.old h_a hs) (by rfl) (hd)) ?_
      refine WQ.p (by rfl) (fun w hs => Yl.fieldAddr fa81_0 (by rfl)) ?_
      refine WQ.p (by rfl) (fun w hs => Yl.loadC sca3 (by rfl) (Sl.Ok.at_ (Ph.old h_a hs) (by assumption)).2 (by rfl)) ?_
      refine WQ.p (by rfl) (fun w hs => Yl.move (by rfl)) ?_
      refine WQ.p (by rfl) (fun w hs => Yl.move (by rfl)) ?_
      refine WQ.p (by rfl) (fun w hs => Yl.indexAddr slt44 (by rfl) (by rfl) (Ph.old h_b hs) (by rfl) (hd2)) ?_
      refine WQ.p (by rfl) (fun w hs => Yl.fieldAddr fa81_0 (by rfl)) ?_
      refine WQ.p (by rfl) (fun w hs => Yl.loadC sca3 (by rfl) (Sl.Ok.at_ (Ph.old h_b hs) (by assumption)).2 (by rfl)) ?_
      refine WQ.p (by rfl) (fun w hs => Yl.nei (by rfl) (by rfl)) ?_
      refine WQ.p (by rfl) (fun w hs => Yl.move (by rfl)) ?_
      refine WQ.split (d := 29) (by rfl) (fun h3 => ?_) (fun h3 => ?_)
      ·
        replace h3 := not_eq_true h3
        replace h3 := of_decide_eq_false h3
        refine WQ.skip (d := 29) (by rfl) (by rfl) (by rfl) (by rfl) ?_
        refine WQ.skip (d := 29) (by rfl) (by rfl) (by rfl) (by rfl) ?_
        refine WQ.skip (d := 29) (by rfl) (by rfl) (by rfl) (by rfl) ?_
        refine WQ.skip (d := 29) (by rfl) (by rfl) (by rfl) (by rfl) ?_
        refine WQ.skip (d := 29) (by rfl) (by rfl) (by rfl) (by rfl) ?_
        refine WQ.skip (d := 29) (by rfl) (by rfl) (by rfl) (by rfl) ?_
        refine WQ.skip (d := 29) (by rfl) (by rfl) (by rfl) (by rfl) ?_
        refine WQ.skip (d := 29) (by rfl) (by rfl) (by rfl) (by rfl) ?_
        refine WQ.skip (d := 29) (by rfl) (by rfl) (by rfl) (by rfl) ?_
        refine WQ.skip (d := 29) (by rfl) (by rfl) (by rfl) (by rfl) ?_
        refine WQ.skip (d := 29) (by rfl) (by rfl) (by rfl) (by rfl) ?_
        refine WQ.p (by rfl) (fun w hs => Yl.pickT (by rfl) (by rfl)) ?_
        refine WQ.p (by rfl) (fun w hs => Yl.move (by rfl)) ?_
        refine WQ.skip (d := 42) (by rfl) (by rfl) (by rfl) (by rfl) ?_
        refine WQ.skip (d := 42) (by rfl) (by rfl) (by rfl) (by rfl) ?_
        refine WQ.skip (d := 42) (by rfl) (by rfl) (by rfl) (by rfl) ?_
        refine WQ.skip (d := 42) (by rfl) (by rfl) (by rfl) (by rfl) ?_
        refine WQ.skip (d := 42) (by rfl) (by rfl) (by rfl) (by rfl) ?_
        refine WQ.skip (d := 42) (by rfl) (by rfl) (by rfl) (by rfl) ?_
        refine WQ.skip (d := 42) (by rfl) (by rfl) (by rfl) (by rfl) ?_
        refine WQ.skip (d := 42) (by rfl) (by rfl) (by rfl) (by rfl) ?_
        refine WQ.skip (d := 42) (by rfl) (by rfl) (by rfl) (by rfl) ?_
        refine WQ.skip (d := 42) (by rfl) (by rfl) (by rfl) (by rfl) ?_
        refine WQ.skip (d := 42) (by rfl) (by rfl) (by rfl) (by rfl) ?_
        refine WQ.p (by rfl) (fun w hs => Yl.pickT (by rfl) (by rfl)) ?_
        refine WQ.p (by rfl) (fun w hs => Yl.move (by rfl)) ?_
        refine WQ.skip (d := 55) (by rfl) (by rfl) (by rfl) (by rfl) ?_
        refine WQ.skip (d := 55) (by rfl) (by rfl) (by rfl) (by rfl) ?_
        refine WQ.skip (d := 55) (by rfl) (by rfl) (by rfl) (by rfl) ?_
        refine WQ.skip (d := 55) (by rfl) (by rfl) (by rfl) (by rfl) ?_
        refine WQ.skip (d := 55) (by rfl) (by rfl) (by rfl) (by rfl) ?_
        refine WQ.skip (d := 55) (by rfl) (by rfl) (by rfl) (by rfl) ?_
        refine WQ.skip (d := 55) (by rfl) (by rfl) (by rfl) (by rfl) ?_
        refine WQ.skip (d := 55) (by rfl) (by rfl) (by rfl) (by rfl) ?_
        refine WQ.skip (d := 55) (by rfl) (by rfl) (by rfl) (by rfl) ?_
        refine WQ.skip (d := 55) (by rfl) (by rfl) (by rfl) (by rfl) ?_
        refine WQ.skip (d := 55) (by rfl) (by rfl) (by rfl) (by rfl) ?_
        refine WQ.p (by rfl) (fun w hs => Yl.pickT (by rfl) (by rfl)) ?_
        refine WQ.p (by rfl) (fun w hs => Yl.move (by rfl)) ?_
        refine WQ.skip (d := 68) (by rfl) (by rfl) (by rfl) (by rfl) ?_
        refine WQ.skip (d := 68) (by rfl) (by rfl) (by rfl) (by rfl) ?_
        refine WQ.skip (d := 68) (by rfl) (by rfl) (by rfl) (by rfl) ?_
        refine WQ.skip (d := 68) (by rfl) (by rfl) (by rfl) (by rfl) ?_
        refine WQ.skip (d := 68) (by rfl) (by rfl) (by rfl) (by rfl) ?_
        refine WQ.skip (d := 68) (by rfl) (by rfl) (by rfl) (by rfl) ?_
        refine WQ.skip (d := 68) (by rfl) (by rfl) (by rfl) (by rfl) ?_
        refine WQ.skip (d := 68) (by rfl) (by rfl) (by rfl) (by rfl) ?_
        refine WQ.skip (d := 68) (by rfl) (by rfl) (by rfl) (by rfl) ?_
        refine WQ.skip (d := 68) (by rfl) (by rfl) (by rfl) (by rfl) ?_
        refine WQ.skip (d := 68) (by rfl) (by rfl) (by rfl) (by rfl) ?_
        refine WQ.skip (d := 68) (by rfl) (by rfl) (by rfl) (by rfl) ?_
        refine WQ.skip (d := 68) (by rfl) (by rfl) (by rfl) (by rfl) ?_
        refine WQ.p (by rfl) (fun w hs => Yl.pickT (by rfl) (by rfl)) ?_
        refine WQ.next ?_
        clear hs; intro w hs
        refine WC.condT (by rfl) ?_
        refine WC.seq ?_
        refine WL.p (by rfl) (Yl.assign (by rfl)) ?_
        refine WL.next ?_
        refine WC.ret ?_
        refine At.thenret ?_
        refine At.blockret ?_
        refine At.thenret ?_
        refine At.thenret ?_
        refine At.blockret ?_
        refine At.thenret ?_
        refine fin1' rfl (by rfl) ?_
        refine RetP.mk hs ?_
        have hne : ¬ d.lg = d2.lg := by
          intro he
          have e1 := congrArg TToken.kind he
          have e2 := congrArg TToken.name he
          have e3 := congrArg TToken.text he
          have e4 := congrArg (fun t => (t.attrs.length : Int)) he
          have e5 := congrArg fmtTok he
          have e6 := congrArg TToken.attrs he
          first | contradiction | (simp only [e6] at hI; simp_all; done) | simp_all
        rw [hJ]; simp only [List.map_cons, List.cons.injEq, hne, false_and, decide_false]
      ·
        replace h3 := not_eq_false h3
        replace h3 := of_decide_eq_true h3
        refine WQ.run (d := 29) (by rfl) (by rfl) ?_
        refine WQ.p (by rfl) (fun w hs => Yl.move (by rfl)) ?_
        refine WQ.run (d := 29) (by rfl) (by rfl) ?_
        refine WQ.p (by rfl) (fun w hs => Yl.move (by rfl)) ?_
        refine WQ.run (d := 29) (by rfl) (by rfl) ?_
        refine WQ.p (by rfl) (fun w hs => Yl.indexAddr slt44 (by rfl) (by rfl) (Ph.old h_a hs) (by rfl) (hd)) ?_
        refine WQ.run (d := 29) (by rfl) (by rfl) ?_
        refine WQ.p (by rfl) (fun w hs => Yl.loadA agg81 (by rfl) (Sl.Ok.at_ (Ph.old h_a hs) (by assumption)).2 (by rfl)) ?_
        refine WQ.run (d := 29) (by rfl) (by rfl) ?_
        refine WQ.callp (by rfl) (fun w => Yc.func (by rfl) fn58) (fun w hs => (c_spec_FormatToken _ _ (Ph.old (Sl.Ok.elem h_a hd) hs) (by first | assumption | omega | (simp only [lsz] at *; omega) | (simp only [lsz, strsz, TPolicy.size, TCache.size, TAddr.size, TRequest.size, TEntry.size, TResponse.size, TLine.size] at *; omega) | (simp only [lsz_map, TPage.size, TBuilder.size, TNode.size, TToken.size, TTokenizer.size, TServer.size, TFile.size, TNet.size, TCache.size, TSheet.size, strsz] at *; omega) | (simp only [lsz_map, TPage.size, TBuilder.size, TNode.size, TToken.size, TTokenizer.size, TServer.size, TFile.size, TNet.size, TCache.size, TSheet.size, strsz, lsz] at *; omega)))) (fun _ _ hs hb => hs.ext hb) ?_
        refine WQ.run (d := 29) (by rfl) (by rfl) ?_
        refine WQ.p (by rfl) (fun w hs => Yl.move (by rfl)) ?_
        refine WQ.run (d := 29) (by rfl) (by rfl) ?_
        refine WQ.p (by rfl) (fun w hs => Yl.move (by rfl)) ?_
        refine WQ.run (d := 29) (by rfl) (by rfl) ?_
        refine WQ.p (by rfl) (fun w hs => Yl.indexAddr slt44 (by rfl) (by rfl) (Ph.old h_b hs) (by rfl) (hd2)) ?_
        refine WQ.run (d := 29) (by rfl) (by rfl) ?_
        refine WQ.p (by rfl) (fun w hs => Yl.loadA agg81 (by rfl) (Sl.Ok.at_ (Ph.old h_b hs) (by assumption)).2 (by rfl)) ?_
        refine WQ.run (d := 29) (by rfl) (by rfl) ?_
        refine WQ.callp (by rfl) (fun w => Yc.func (by rfl) fn58) (fun w hs => (c_spec_FormatToken _ _ (Ph.old (Sl.Ok.elem h_b hd2) hs) (by first | assumption | omega | (simp only [lsz] at *; omega) | (simp only [lsz, strsz, TPolicy.size, TCache.size, TAddr.size, TRequest.size, TEntry.size, TResponse.size, TLine.size] at *; omega) | (simp only [lsz_map, TPage.size, TBuilder.size, TNode.size, TToken.size, TTokenizer.size, TServer.size, TFile.size, TNet.size, TCache.size, TSheet.size, strsz] at *; omega) | (simp only [lsz_map, TPage.size, TBuilder.size, TNode.size, TToken.size, TTokenizer.size, TServer.size, TFile.size, TNet.size, TCache.size, TSheet.size, strsz, lsz] at *; omega)))) (fun _ _ hs hb => hs.ext hb) ?_
        refine WQ.run (d := 29) (by rfl) (by rfl) ?_
        refine WQ.p (by rfl) (fun w hs => Yl.nes (by rfl) (by rfl)) ?_
        refine WQ.p (by rfl) (fun w hs => Yl.pickF (by rfl) (by rfl)) ?_
        refine WQ.p (by rfl) (fun w hs => Yl.move (by rfl)) ?_
        refine WQ.split (d := 42) (by rfl) (fun h4 => ?_) (fun h4 => ?_)
        ·
          replace h4 := not_eq_true h4
          replace h4 := of_decide_eq_false h4
          refine WQ.skip (d := 42) (by rfl) (by rfl) (by rfl) (by rfl) ?_
          refine WQ.skip (d := 42) (by rfl) (by rfl) (by rfl) (by rfl) ?_
          refine WQ.skip (d := 42) (by rfl) (by rfl) (by rfl) (by rfl) ?_
          refine WQ.skip (d := 42) (by rfl) (by rfl) (by rfl) (by rfl) ?_
          refine WQ.skip (d := 42) (by rfl) (by rfl) (by rfl) (by rfl) ?_
          refine WQ.skip (d := 42) (by rfl) (by rfl) (by rfl) (by rfl) ?_
          refine WQ.skip (d := 42) (by rfl) (by rfl) (by rfl) (by rfl) ?_
          refine WQ.skip (d := 42) (by rfl) (by rfl) (by rfl) (by rfl) ?_
          refine WQ.skip (d := 42) (by rfl) (by rfl) (by rfl) (by rfl) ?_
          refine WQ.skip (d := 42) (by rfl) (by rfl) (by rfl) (by rfl) ?_
          refine WQ.skip (d := 42) (by rfl) (by rfl) (by rfl) (by rfl) ?_
          refine WQ.p (by rfl) (fun w hs => Yl.pickT (by rfl) (by rfl)) ?_
          refine WQ.p (by rfl) (fun w hs => Yl.move (by rfl)) ?_
          refine WQ.skip (d := 55) (by rfl) (by rfl) (by rfl) (by rfl) ?_
          refine WQ.skip (d := 55) (by rfl) (by rfl) (by rfl) (by rfl) ?_
          refine WQ.skip (d := 55) (by rfl) (by rfl) (by rfl) (by rfl) ?_
          refine WQ.skip (d := 55) (by rfl) (by rfl) (by rfl) (by rfl) ?_
          refine WQ.skip (d := 55) (by rfl) (by rfl) (by rfl) (by rfl) ?_
          refine WQ.skip (d := 55) (by rfl) (by rfl) (by rfl) (by rfl) ?_
          refine WQ.skip (d := 55) (by rfl) (by rfl) (by rfl) (by rfl) ?_
          refine WQ.skip (d := 55) (by rfl) (by rfl) (by rfl) (by rfl) ?_
          refine WQ.skip (d := 55) (by rfl) (by rfl) (by rfl) (by rfl) ?_
          refine WQ.skip (d := 55) (by rfl) (by rfl) (by rfl) (by rfl) ?_
          refine WQ.skip (d := 55) (by rfl) (by rfl) (by rfl) (by rfl) ?_
          refine WQ.p (by rfl) (fun w hs => Yl.pickT (by rfl) (by rfl)) ?_
          refine WQ.p (by rfl) (fun w hs => Yl.move (by rfl)) ?_
          refine WQ.skip (d := 68) (by rfl) (by rfl) (by rfl) (by rfl) ?_
          refine WQ.skip (d := 68) (by rfl) (by rfl) (by rfl) (by rfl) ?_
          refine WQ.skip (d := 68) (by rfl) (by rfl) (by rfl) (by rfl) ?_
          refine WQ.skip (d := 68) (by rfl) (by rfl) (by rfl) (by rfl) ?_
          refine WQ.skip (d := 68) (by rfl) (by rfl) (by rfl) (by rfl) ?_
          refine WQ.skip (d := 68) (by rfl) (by rfl) (by rfl) (by rfl) ?_
          refine WQ.skip (d := 68) (by rfl) (by rfl) (by rfl) (by rfl) ?_
          refine WQ.skip (d := 68) (by rfl) (by rfl) (by rfl) (by rfl) ?_
          refine WQ.skip (d := 68) (by rfl) (by rfl) (by rfl) (by rfl) ?_
          refine WQ.skip (d := 68) (by rfl) (by rfl) (by rfl) (by rfl) ?_
          refine WQ.skip (d := 68) (by rfl) (by rfl) (by rfl) (by rfl) ?_
          refine WQ.skip (d := 68) (by rfl) (by rfl) (by rfl) (by rfl) ?_
          refine WQ.skip (d := 68) (by rfl) (by rfl) (by rfl) (by rfl) ?_
          refine WQ.p (by rfl) (fun w hs => Yl.pickT (by rfl) (by rfl)) ?_
          refine WQ.next ?_
          clear hs; intro w hs
          refine WC.condT (by rfl) ?_
          refine WC.seq ?_
          refine WL.p (by rfl) (Yl.assign (by rfl)) ?_
          refine WL.next ?_
          refine WC.ret ?_
          refine At.thenret ?_
          refine At.blockret ?_
          refine At.thenret ?_
          refine At.thenret ?_
          refine At.blockret ?_
          refine At.thenret ?_
          refine fin1' rfl (by rfl) ?_
          refine RetP.mk hs ?_
          have hne : ¬ d.lg = d2.lg := by
            intro he
            have e1 := congrArg TToken.kind he
            have e2 := congrArg TToken.name he
            have e3 := congrArg TToken.text he
            have e4 := congrArg (fun t => (t.attrs.length : Int)) he
            have e5 := congrArg fmtTok he
            have e6 := congrArg TToken.attrs he
            first | contradiction | (simp only [e6] at hI; simp_all; done) | simp_all
          rw [hJ]; simp only [List.map_cons, List.cons.injEq, hne, false_and, decide_false]
        ·
          replace h4 := not_eq_false h4
          replace h4 := of_decide_eq_true h4
          refine WQ.run (d := 42) (by rfl) (by rfl) ?_
          refine WQ.p (by rfl) (fun w hs => Yl.move (by rfl)) ?_
          refine WQ.run (d := 42) (by rfl) (by rfl) ?_
          refine WQ.p (by rfl) (fun w hs => Yl.move (by rfl)) ?_
          refine WQ.run (d := 42) (by rfl) (by rfl) ?_
          refine WQ.p (by rfl) (fun w hs => Yl.indexAddr slt44 (by rfl) (by rfl) (Ph.old h_a hs) (by rfl) (hd)) ?_
          refine WQ.run (d := 42) (by rfl) (by rfl) ?_
          refine WQ.p (by rfl) (fun w hs => Yl.fieldAddr fa81_1 (by rfl)) ?_
          refine WQ.run (d := 42) (by rfl) (by rfl) ?_
          refine WQ.p (by rfl) (fun w hs => Yl.loadC sca9 (by rfl) (Sl.Ok.at_ (Ph.old h_a hs) (by assumption)).2 (by rfl)) ?_
          refine WQ.run (d := 42) (by rfl) (by rfl) ?_
          refine WQ.p (by rfl) (fun w hs => Yl.move (by rfl)) ?_
          refine WQ.run (d := 42) (by rfl) (by rfl) ?_
          refine WQ.p (by rfl) (fun w hs => Yl.move (by rfl)) ?_
          refine WQ.run (d := 42) (by rfl) (by rfl) ?_
          refine WQ.p (by rfl) (fun w hs => Yl.indexAddr slt44 (by rfl) (by rfl) (Ph.old h_b hs) (by rfl) (hd2)) ?_
          refine WQ.run (d := 42) (by rfl) (by rfl) ?_
          refine WQ.p (by rfl) (fun w hs => Yl.fieldAddr fa81_1 (by rfl)) ?_
          refine WQ.run (d := 42) (by rfl) (by rfl) ?_
          refine WQ.p (by rfl) (fun w hs => Yl.loadC sca9 (by rfl) (Sl.Ok.at_ (Ph.old h_b hs) (by assumption)).2 (by rfl)) ?_
          refine WQ.run (d := 42) (by rfl) (by rfl) ?_
          refine WQ.p (by rfl) (fun w hs => Yl.nes (by rfl) (by rfl)) ?_
          refine WQ.p (by rfl) (fun w hs => Yl.pickF (by rfl) (by rfl)) ?_
          refine WQ.p (by rfl) (fun w hs => Yl.move (by rfl)) ?_
          refine WQ.split (d := 55) (by rfl) (fun h5 => ?_) (fun h5 => ?_)
          ·
            replace h5 := not_eq_true h5
            replace h5 := of_decide_eq_false h5
            refine WQ.skip (d := 55) (by rfl) (by rfl) (by rfl) (by rfl) ?_
            refine WQ.skip (d := 55) (by rfl) (by rfl) (by rfl) (by rfl) ?_
            refine WQ.skip (d := 55) (by rfl) (by rfl) (by rfl) (by rfl) ?_
            refine WQ.skip (d := 55) (by rfl) (by rfl) (by rfl) (by rfl) ?_
            refine WQ.skip (d := 55) (by rfl) (by rfl) (by rfl) (by rfl) ?_
            refine WQ.skip (d := 55) (by rfl) (by rfl) (by rfl) (by rfl) ?_
            refine WQ.skip (d := 55) (by rfl) (by rfl) (by rfl) (by rfl) ?_
            refine WQ.skip (d := 55) (by rfl) (by rfl) (by rfl) (by rfl) ?_
            refine WQ.skip (d := 55) (by rfl) (by rfl) (by rfl) (by rfl) ?_
            refine WQ.skip (d := 55) (by rfl) (by rfl) (by rfl) (by rfl) ?_
            refine WQ.skip (d := 55) (by rfl) (by rfl) (by rfl) (by rfl) ?_
            refine WQ.p (by rfl) (fun w hs => Yl.pickT (by rfl) (by rfl)) ?_
            refine WQ.p (by rfl) (fun w hs => Yl.move (by rfl)) ?_
            refine WQ.skip (d := 68) (by rfl) (by rfl) (by rfl) (by rfl) ?_
            refine WQ.skip (d := 68) (by rfl) (by rfl) (by rfl) (by rfl) ?_
            refine WQ.skip (d := 68) (by rfl) (by rfl) (by rfl) (by rfl) ?_
            refine WQ.skip (d := 68) (by rfl) (by rfl) (by rfl) (by rfl) ?_
            refine WQ.skip (d := 68) (by rfl) (by rfl) (by rfl) (by rfl) ?_
            refine WQ.skip (d := 68) (by rfl) (by rfl) (by rfl) (by rfl) ?_
            refine WQ.skip (d := 68) (by rfl) (by rfl) (by rfl) (by rfl) ?_
            refine WQ.skip (d := 68) (by rfl) (by rfl) (by rfl) (by rfl) ?_
            refine WQ.skip (d := 68) (by rfl) (by rfl) (by rfl) (by rfl) ?_
            refine WQ.skip (d := 68) (by rfl) (by rfl) (by rfl) (by rfl) ?_
            refine WQ.skip (d := 68) (by rfl) (by rfl) (by rfl) (by rfl) ?_
            refine WQ.skip (d := 68) (by rfl) (by rfl) (by rfl) (by rfl) ?_
            refine WQ.skip (d := 68) (by rfl) (by rfl) (by rfl) (by rfl) ?_
            refine WQ.p (by rfl) (fun w hs => Yl.pickT (by rfl) (by rfl)) ?_
            refine WQ.next ?_
            clear hs; intro w hs
            refine WC.condT (by rfl) ?_
            refine WC.seq ?_
            refine WL.p (by rfl) (Yl.assign (by rfl)) ?_
            refine WL.next ?_
            refine WC.ret ?_
            refine At.thenret ?_
            refine At.blockret ?_
            refine At.thenret ?_
            refine At.thenret ?_
            refine At.blockret ?_
            refine At.thenret ?_
            refine fin1' rfl (by rfl) ?_
            refine RetP.mk hs ?_
            have hne : ¬ d.lg = d2.lg := by
              intro he
              have e1 := congrArg TToken.kind he
              have e2 := congrArg TToken.name he
              have e3 := congrArg TToken.text he
              have e4 := congrArg (fun t => (t.attrs.length : Int)) he
              have e5 := congrArg fmtTok he
              have e6 := congrArg TToken.attrs he
              first | contradiction | (simp only [e6] at hI; simp_all; done) | simp_all
            rw [hJ]; simp only [List.map_cons, List.cons.injEq, hne, false_and, decide_false]
          ·
            replace h5 := not_eq_false h5
            replace h5 := of_decide_eq_true h5
            refine WQ.run (d := 55) (by rfl) (by rfl) ?_
            refine WQ.p (by rfl) (fun w hs => Yl.move (by rfl)) ?_
            refine WQ.run (d := 55) (by rfl) (by rfl) ?_
            refine WQ.p (by rfl) (fun w hs => Yl.move (by rfl)) ?_
            refine WQ.run (d := 55) (by rfl) (by rfl) ?_
            refine WQ.p (by rfl) (fun w hs => Yl.indexAddr slt44 (by rfl) (by rfl) (Ph.old h_a hs) (by rfl) (hd)) ?_
            refine WQ.run (d := 55) (by rfl) (by rfl) ?_
            refine WQ.p (by rfl) (fun w hs => Yl.fieldAddr fa81_3 (by rfl)) ?_
            refine WQ.run (d := 55) (by rfl) (by rfl) ?_
            refine WQ.p (by rfl) (fun w hs => Yl.loadC sca9 (by rfl) (Sl.Ok.at_ (Ph.old h_a hs) (by assumption)).2 (by rfl)) ?_
            refine WQ.run (d := 55) (by rfl) (by rfl) ?_
            refine WQ.p (by rfl) (fun w hs => Yl.move (by rfl)) ?_
            refine WQ.run (d := 55) (by rfl) (by rfl) ?_
            refine WQ.p (by rfl) (fun w hs => Yl.move (by rfl)) ?_
            refine WQ.run (d := 55) (by rfl) (by rfl) ?_
            refine WQ.p (by rfl) (fun w hs => Yl.indexAddr slt44 (by rfl) (by rfl) (Ph.old h_b hs) (by rfl) (hd2)) ?_
            refine WQ.run (d := 55) (by rfl) (by rfl) ?_
            refine WQ.p (by rfl) (fun w hs => Yl.fieldAddr fa81_3 (by rfl)) ?_
            refine WQ.run (d := 55) (by rfl) (by rfl) ?_
            refine WQ.p (by rfl) (fun w hs => Yl.loadC sca9 (by rfl) (Sl.Ok.at_ (Ph.old h_b hs) (by assumption)).2 (by rfl)) ?_
            refine WQ.run (d := 55) (by rfl) (by rfl) ?_
            refine WQ.p (by rfl) (fun w hs => Yl.nes (by rfl) (by rfl)) ?_
            refine WQ.p (by rfl) (fun w hs => Yl.pickF (by rfl) (by rfl)) ?_
            refine WQ.p (by rfl) (fun w hs => Yl.move (by rfl)) ?_
            refine WQ.split (d := 68) (by rfl) (fun h6 => ?_) (fun h6 => ?_)
            ·
              replace h6 := not_eq_true h6
              replace h6 := of_decide_eq_false h6
              refine WQ.skip (d := 68) (by rfl) (by rfl) (by rfl) (by rfl) ?_
              refine WQ.skip (d := 68) (by rfl) (by rfl) (by rfl) (by rfl) ?_
              refine WQ.skip (d := 68) (by rfl) (by rfl) (by rfl) (by rfl) ?_
              refine WQ.skip (d := 68) (by rfl) (by rfl) (by rfl) (by rfl) ?_
              refine WQ.skip (d := 68) (by rfl) (by rfl) (by rfl) (by rfl) ?_
              refine WQ.skip (d := 68) (by rfl) (by rfl) (by rfl) (by rfl) ?_
              refine WQ.skip (d := 68) (by rfl) (by rfl) (by rfl) (by rfl) ?_
              refine WQ.skip (d := 68) (by rfl) (by rfl) (by rfl) (by rfl) ?_
              refine WQ.skip (d := 68) (by rfl) (by rfl) (by rfl) (by rfl) ?_
              refine WQ.skip (d := 68) (by rfl) (by rfl) (by rfl) (by rfl) ?_
              refine WQ.skip (d := 68) (by rfl) (by rfl) (by rfl) (by rfl) ?_
              refine WQ.skip (d := 68) (by rfl) (by rfl) (by rfl) (by rfl) ?_
              refine WQ.skip (d := 68) (by rfl) (by rfl) (by rfl) (by rfl) ?_
              refine WQ.p (by rfl) (fun w hs => Yl.pickT (by rfl) (by rfl)) ?_
              refine WQ.next ?_
              clear hs; intro w hs
              refine WC.condT (by rfl) ?_
              refine WC.seq ?_
              refine WL.p (by rfl) (Yl.assign (by rfl)) ?_
              refine WL.next ?_
              refine WC.ret ?_
              refine At.thenret ?_
              refine At.blockret ?_
              refine At.thenret ?_
              refine At.thenret ?_
              refine At.blockret ?_
              refine At.thenret ?_
              refine fin1' rfl (by rfl) ?_
              refine RetP.mk hs ?_
              have hne : ¬ d.lg = d2.lg := by
                intro he
                have e1 := congrArg TToken.kind he
                have e2 := congrArg TToken.name he
                have e3 := congrArg TToken.text he
                have e4 := congrArg (fun t => (t.attrs.length : Int)) he
                have e5 := congrArg fmtTok he
                have e6 := congrArg TToken.attrs he
                first | contradiction | (simp only [e6] at hI; simp_all; done) | simp_all
              rw [hJ]; simp only [List.map_cons, List.cons.injEq, hne, false_and, decide_false]
            ·
              replace h6 := not_eq_false h6
              replace h6 := of_decide_eq_true h6
              refine WQ.run (d := 68) (by rfl) (by rfl) ?_
              refine WQ.p (by rfl) (fun w hs => Yl.move (by rfl)) ?_
              refine WQ.run (d := 68) (by rfl) (by rfl) ?_
              refine WQ.p (by rfl) (fun w hs => Yl.move (by rfl)) ?_
              refine WQ.run (d := 68) (by rfl) (by rfl) ?_
              refine WQ.p (by rfl) (fun w hs => Yl.indexAddr slt44 (by rfl) (by rfl) (Ph.old h_a hs) (by rfl) (hd)) ?_
              refine WQ.run (d := 68) (by rfl) (by rfl) ?_
              refine WQ.p (by rfl) (fun w hs => Yl.fieldAddr fa81_2 (by rfl)) ?_
              refine WQ.run (d := 68) (by rfl) (by rfl) ?_
              refine WQ.p (by rfl) (fun w hs => Yl.loadC sca79 (by rfl) (Sl.Ok.at_ (Ph.old h_a hs) (by assumption)).2 (by rfl)) ?_
              refine WQ.run (d := 68) (by rfl) (by rfl) ?_
              refine WQ.p (by rfl) (fun w hs => Yl.len_sl slu79 (by rfl)) ?_
              refine WQ.run (d := 68) (by rfl) (by rfl) ?_
              refine WQ.p (by rfl) (fun w hs => Yl.move (by rfl)) ?_
              refine WQ.run (d := 68) (by rfl) (by rfl) ?_
              refine WQ.p (by rfl) (fun w hs => Yl.move (by rfl)) ?_
              refine WQ.run (d := 68) (by rfl) (by rfl) ?_
              refine WQ.p (by rfl) (fun w hs => Yl.indexAddr slt44 (by rfl) (by rfl) (Ph.old h_b hs) (by rfl) (hd2)) ?_
              refine WQ.run (d := 68) (by rfl) (by rfl) ?_
              refine WQ.p (by rfl) (fun w hs => Yl.fieldAddr fa81_2 (by rfl)) ?_
              refine WQ.run (d := 68) (by rfl) (by rfl) ?_
              refine WQ.p (by rfl) (fun w hs => Yl.loadC sca79 (by rfl) (Sl.Ok.at_ (Ph.old h_b hs) (by assumption)).2 (by rfl)) ?_
              refine WQ.run (d := 68) (by rfl) (by rfl) ?_
              refine WQ.p (by rfl) (fun w hs => Yl.len_sl slu79 (by rfl)) ?_
              refine WQ.run (d := 68) (by rfl) (by rfl) ?_
              refine WQ.p (by rfl) (fun w hs => Yl.nei (by rfl) (by rfl)) ?_
              refine WQ.p (by rfl) (fun w hs => Yl.pickF (by rfl) (by rfl)) ?_
              refine WQ.next ?_
              clear hs; intro w hs
              refine WC.condS (by rfl) (fun h7 => ?_) (fun h7 => ?_)
              ·
                replace h7 := not_eq_true h7
                replace h7 := of_decide_eq_false h7
                refine WC.seq ?_
                refine WL.p (by rfl) (Yl.assign (by rfl)) ?_
                refine WL.next ?_
                refine WC.ret ?_
                refine At.thenret ?_
                refine At.blockret ?_
                refine At.thenret ?_
                refine At.thenret ?_
                refine At.blockret ?_
                refine At.thenret ?_
                refine fin1' rfl (by rfl) ?_
                refine RetP.mk hs ?_
                have hne : ¬ d.lg = d2.lg := by
                  intro he
                  have e1 := congrArg TToken.kind he
                  have e2 := congrArg TToken.name he
                  have e3 := congrArg TToken.text he
                  have e4 := congrArg (fun t => (t.attrs.length : Int)) he
                  have e5 := congrArg fmtTok he
                  have e6 := congrArg TToken.attrs he
                  first | contradiction | (simp only [e6] at hI; simp_all; done) | simp_all
                rw [hJ]; simp only [List.map_cons, List.cons.injEq, hne, false_and, decide_false]
              ·
                replace h7 := not_eq_false h7
                replace h7 := of_decide_eq_true h7
                refine WC.skipn ?_
                refine WC.seq ?_
                refine WL.p (by rfl) (Yl.assign (by rfl)) ?_
                refine WL.next ?_
                refine WC.block ?_
                refine WC.loopC (ι := Nat) (fun m => d.attrs.l.length - m) (fun m => [(6, I (m : Int))]) (fun _ => []) (fun m => decide (d.attrs.l = d2.attrs.l) = decide (d.attrs.l.drop m = d2.attrs.l.drop m)) [(0, _), (1, _), (5, _), (7, _), (8, _), (9, _), (10, _), (11, _), (12, _), (13, _), (14, _), (15, _), (18, _), (19, _), (20, _), (21, _), (22, _), (23, _), (24, _), (25, _), (26, _), (27, _), (28, _), (29, _), (30, _), (31, _), (32, _), (33, _), (34, _), (35, _), (36, _), (37, _), (38, _), (39, _), (40, _), (41, _), (42, _), (43, _), (44, _), (45, _), (46, _), (47, _), (48, _), (49, _), (50, _), (51, _), (52, _), (53, _), (54, _), (55, _), (56, _), (57, _), (58, _), (59, _), (60, _), (61, _), (62, _), (63, _), (64, _), (65, _), (66, _), (67, _), (68, _), (69, _), (70, _), (71, _), (72, _), (73, _), (74, _), (75, _), (76, _), (77, _), (78, _), (79, _), (80, _), (81, _), (82, _)] 0 (hs) ⟨by rfl, by rfl, by rfl, by rfl, by rfl, by rfl, by rfl, by rfl, by rfl, by rfl, by rfl, by rfl, by rfl, by rfl, by rfl, by rfl, by rfl, by rfl, by rfl, by rfl, by rfl, by rfl, by rfl, by rfl, by rfl, by rfl, by rfl, by rfl, by rfl, by rfl, by rfl, by rfl, by rfl, by rfl, by rfl, by rfl, by rfl, by rfl, by rfl, by rfl, by rfl, by rfl, by rfl, by rfl, by rfl, by rfl, by rfl, by rfl, by rfl, by rfl, by rfl, by rfl, by rfl, by rfl, by rfl, by rfl, by rfl, by rfl, by rfl, by rfl, by rfl, by rfl, by rfl, by rfl, by rfl, by rfl, by rfl, by rfl, by rfl, by rfl, by rfl, by rfl, by rfl, by rfl, by rfl, by rfl, by rfl, trivial⟩ ⟨by rfl, trivial⟩ ?_ ?_
                ·
                  simp
                clear hs; rintro m w hI hs
                simp only [List.nil_append] at hs
                refine WC.seq' ?_
                refine WC.seq ?_
                refine WL.p (by rfl) (Yl.move (by rfl)) ?_
                refine WL.p (by rfl) (Yl.move (by rfl)) ?_
                refine WL.p (by rfl) (Yl.move (by rfl)) ?_
                refine WL.p (by rfl) (Yl.indexAddr slt44 (by rfl) (by rfl) (Ph.old h_a hs) (by rfl) (hd)) ?_
                refine WL.p (by rfl) (Yl.fieldAddr fa81_2 (by rfl)) ?_
                refine WL.p (by rfl) (Yl.loadC sca79 (by rfl) (Sl.Ok.at_ (Ph.old h_a hs) (by assumption)).2 (by rfl)) ?_
                refine WL.p (by rfl) (Yl.len_sl slu79 (by rfl)) ?_
                refine WL.p (by rfl) (Yl.lss (by rfl) (by rfl)) ?_
                refine WL.next ?_
                refine WC.condS (by rfl) (fun h8 => ?_) (fun h8 => ?_)
                ·
                  replace h8 := of_decide_eq_true h8
                  obtain ⟨x, hx⟩ := exists_get (l := d.attrs.l) (k := m) (by omega)
                  obtain ⟨x2, hx2⟩ := exists_get (l := d2.attrs.l) (k := m) (by omega)
                  rw [drop_cons hx, drop_cons hx2] at hI
                  refine WC.skipn ?_
                  refine WC.seq' ?_
                  refine WC.block ?_
                  refine WC.quietn mixed (by kernel_rfl) hs ?_
                  refine WQ.p (by rfl) (fun w hs => Yl.move (by rfl)) ?_
                  refine WQ.p (by rfl) (fun w hs => Yl.move (by rfl)) ?_
                  refine WQ.p (by rfl) (fun w hs => Yl.indexAddr slt44 (by rfl) (by rfl) (Ph.old h_a hs) (by rfl) (hd)) ?_
                  refine WQ.p (by rfl) (fun w hs => Yl.fieldAddr fa81_2 (by rfl)) ?_
                  refine WQ.p (by rfl) (fun w hs => Yl.loadC sca79 (by rfl) (Sl.Ok.at_ (Ph.old h_a hs) (by assumption)).2 (by rfl)) ?_
                  refine WQ.p (by rfl) (fun w hs => Yl.move (by rfl)) ?_
                  refine WQ.p (by rfl) (fun w hs => Yl.indexAddr slt79 (by rfl) (by rfl) (Ph.old (Sl.Ok.elem h_a hd).attrs hs) (by rfl) (hx)) ?_
                  refine WQ.p (by rfl) (fun w hs => Yl.loadA agg109 (by rfl) (Sl.Ok.at_ (Ph.old (Sl.Ok.elem h_a hd).attrs hs) (by assumption)).2 (by rfl)) ?_
                  refine WQ.p (by rfl) (fun w hs => Yl.move (by rfl)) ?_
                  refine WQ.p (by rfl) (fun w hs => Yl.move (by rfl)) ?_
                  refine WQ.p (by rfl) (fun w hs => Yl.indexAddr slt44 (by rfl) (by rfl) (Ph.old h_b hs) (by rfl) (hd2)) ?_
                  refine WQ.p (by rfl) (fun w hs => Yl.fieldAddr fa81_2 (by rfl)) ?_
                  refine WQ.p (by rfl) (fun w hs => Yl.loadC sca79 (by rfl) (Sl.Ok.at_ (Ph.old h_b hs) (by assumption)).2 (by rfl)) ?_
                  refine WQ.p (by rfl) (fun w hs => Yl.move (by rfl)) ?_
                  refine WQ.p (by rfl) (fun w hs => Yl.indexAddr slt79 (by rfl) (by rfl) (Ph.old (Sl.Ok.elem h_b hd2).attrs hs) (by rfl) (hx2)) ?_
                  refine WQ.p (by rfl) (fun w hs => Yl.loadA agg109 (by rfl) (Sl.Ok.at_ (Ph.old (Sl.Ok.elem h_b hd2).attrs hs) (by assumption)).2 (by rfl)) ?_
                  refine WQ.p (by rfl) (fun w hs => Yl.net eqt109 (by rfl) (by rfl)) ?_
                  refine WQ.next ?_
                  clear hs; intro w hs
                  refine WC.condS (by rfl) (fun h9 => ?_) (fun h9 => ?_)
                  ·
                    replace h9 := not_eq_true h9
                    replace h9 := of_decide_eq_false h9
                    refine WC.seq ?_
                    refine WL.p (by rfl) (Yl.assign (by rfl)) ?_
                    refine WL.next ?_
                    refine WC.ret ?_
                    refine At.blockret ?_
                    refine At.thenret ?_
                    refine At.thenret ?_
                    refine At.blockret ?_
                    refine At.blockret ?_
                    refine At.thenret ?_
                    refine At.thenret ?_
                    refine At.blockret ?_
                    refine At.thenret ?_
                    refine fin1' rfl (by rfl) ?_
                    refine RetP.mk hs ?_
                    have hne : ¬ d.lg = d2.lg := by
                      intro he
                      have e1 := congrArg TToken.kind he
                      have e2 := congrArg TToken.name he
                      have e3 := congrArg TToken.text he
                      have e4 := congrArg (fun t => (t.attrs.length : Int)) he
                      have e5 := congrArg fmtTok he
                      have e6 := congrArg TToken.attrs he
                      first | contradiction | (simp only [e6] at hI; simp_all; done) | simp_all
                    rw [hJ]; simp only [List.map_cons, List.cons.injEq, hne, false_and, decide_false]
                  ·
                    replace h9 := not_eq_false h9
                    replace h9 := of_decide_eq_true h9
                    refine WC.skip ?_
                    refine At.blocknormal ?_
                    refine At.then_ ?_
                    refine WC.region ?_
                    refine WL.p (by rfl) (Yl.move (by rfl)) ?_
                    refine WL.p (by rfl) (Yl.add (by rfl) (by rfl) (by omega)) ?_
                    refine WL.p (by rfl) (Yl.assign (by rfl)) ?_
                    refine WL.nil ?_
                    refine At.roundC (m + 1) (hs.only (by repeat (first | exact Sel.nil | (apply Sel.cons; (repeat (first | exact Ext.here | apply Ext.there)))))) ⟨by rfl, by rfl, by rfl, by rfl, by rfl, by rfl, by rfl, by rfl, by rfl, by rfl, by rfl, by rfl, by rfl, by rfl, by rfl, by rfl, by rfl, by rfl, by rfl, by rfl, by rfl, by rfl, by rfl, by rfl, by rfl, by rfl, by rfl, by rfl, by rfl, by rfl, by rfl, by rfl, by rfl, by rfl, by rfl, by rfl, by rfl, by rfl, by rfl, by rfl, by rfl, by rfl, by rfl, by rfl, by rfl, by rfl, by rfl, by rfl, by rfl, by rfl, by rfl, by rfl, by rfl, by rfl, by rfl, by rfl, by rfl, by rfl, by rfl, by rfl, by rfl, by rfl, by rfl, by rfl, by rfl, by rfl, by rfl, by rfl, by rfl, by rfl, by rfl, by rfl, by rfl, by rfl, by rfl, by rfl, by rfl, trivial⟩ ⟨by rfl, trivial⟩ ?_ ?_
                    ·
                      omega
                    ·
                      rw [hI]; simp_all
                ·
                  replace h8 := of_decide_eq_false h8
                  rw [drop_out (l := d.attrs.l) (by omega), drop_out (l := d2.attrs.l) (by omega)] at hI
                  refine WC.exit ?_
                  refine At.thenexit ?_
                  refine At.thenexit ?_
                  refine At.blockexit ?_
                  refine At.blocknormal ?_
                  refine At.then_ ?_
                  refine WC.region ?_
                  refine WL.p (by rfl) (Yl.move (by rfl)) ?_
                  refine WL.p (by rfl) (Yl.add (by rfl) (by rfl) (by omega)) ?_
                  refine WL.p (by rfl) (Yl.assign (by rfl)) ?_
                  refine WL.nil ?_
                  refine At.roundC (k + 1) (hs.only (by repeat (first | exact Sel.nil | (apply Sel.cons; (repeat (first | exact Ext.here | apply Ext.there)))))) ⟨by rfl, by rfl, by rfl, by rfl, by rfl, by rfl, by rfl, trivial⟩ ⟨by rfl, trivial⟩ ?_ ?_
                  ·
                    omega
                  ·
                    rw [hJ]; simp_all [TToken.ext_iff]
    ·
      replace h2 := of_decide_eq_false h2
      rw [drop_out (l := a.l) (by omega), drop_out (l := b.l) (by omega)] at hJ
      refine WC.exit ?_
      refine At.thenexit ?_
      refine At.thenexit ?_
      refine At.blockexit ?_
      refine At.then_ ?_
      refine WC.seq ?_
      refine WL.p (by rfl) (Yl.assign (by rfl)) ?_
      refine WL.next ?_
      refine WC.ret ?_
      refine fin1' rfl (by rfl) ?_
      refine RetP.mk hs ?_
      rw [hJ]; rfl

theorem c_spec_l15Lists (a : PPage) (b : PPage) (w : World) (h_a : Ph.ok w a) (h_b : Ph.ok w b)  : Calls Try.prog 21 [.agg #[S a.addr.host, S a.addr.path, Bo a.policy.set, Sl.v a.policy.scripts, Sl.v a.policy.styles, Sl.v a.policy.images, S a.policy.nonce, S a.tok.rest, Sl.v a.queue, Bo a.ended, Sl.v a.builder.nodes, Sl.v a.builder.opn, Sl.v a.slots, Sl.v a.mods, Sl.v a.entries, I a.block, I a.inln, I a.deferred, I a.entered, Sl.v a.ran, Sl.v a.log, Bo a.loaded], .agg #[S b.addr.host, S b.addr.path, Bo b.policy.set, Sl.v b.policy.scripts, Sl.v b.policy.styles, Sl.v b.policy.images, S b.policy.nonce, S b.tok.rest, Sl.v b.queue, Bo b.ended, Sl.v b.builder.nodes, Sl.v b.builder.opn, Sl.v b.slots, Sl.v b.mods, Sl.v b.entries, I b.block, I b.inln, I b.deferred, I b.entered, Sl.v b.ran, Sl.v b.log, Bo b.loaded]].toArray w (RetP w (Bo (decide (a.slots.l = b.slots.l ∧ a.mods.l = b.mods.l)))) := by
  have hw := h_a.slots.lt; have hw2 := h_a.mods.lt
  refine enterN 59 Try.func21 rfl rfl rfl ?_
  have hs := Sat.start w
  refine WC.seq ?_
  refine WL.r (by rfl) (Yr.box hs (by rfl) (by rfl)) ?_
  clear hs; rintro _ w ⟨b1, rfl, hb, hs⟩; clear hb
  refine WL.r (by rfl) (Yr.box hs (by rfl) (by rfl)) ?_
  clear hs; rintro _ w ⟨b2, rfl, hb, hs⟩; clear hb
  refine WL.p (by rfl) (Yl.assign (by rfl)) ?_
  refine WL.next ?_
  refine WC.seq' ?_
  refine WC.seq ?_
  refine WL.p (by rfl) (Yl.fieldAddr fa52_6 (by rfl)) ?_
  refine WL.p (by rfl) (Yl.loadB sca48 (by rfl) hs (by repeat (first | exact List.mem_cons_self | apply List.mem_cons_of_mem)) (by rfl)) ?_
  refine WL.p (by rfl) (Yl.len_sl slu48 (by rfl)) ?_
  refine WL.p (by rfl) (Yl.fieldAddr fa52_6 (by rfl)) ?_
  refine WL.p (by rfl) (Yl.loadB sca48 (by rfl) hs (by repeat (first | exact List.mem_cons_self | apply List.mem_cons_of_mem)) (by rfl)) ?_
  refine WL.p (by rfl) (Yl.len_sl slu48 (by rfl)) ?_
  refine WL.p (by rfl) (Yl.nei (by rfl) (by rfl)) ?_
  refine WL.p (by rfl) (Yl.move (by rfl)) ?_
  refine WL.split (d := 14) (by rfl) (fun h1 => ?_) (fun h1 => ?_)
  ·
    replace h1 := not_eq_true h1
    replace h1 := of_decide_eq_false h1
    refine WL.skip (d := 14) (by rfl) (by rfl) (by rfl) (by rfl) ?_
    refine WL.skip (d := 14) (by rfl) (by rfl) (by rfl) (by rfl) ?_
    refine WL.skip (d := 14) (by rfl) (by rfl) (by rfl) (by rfl) ?_
    refine WL.skip (d := 14) (by rfl) (by rfl) (by rfl) (by rfl) ?_
    refine WL.skip (d := 14) (by rfl) (by rfl) (by rfl) (by rfl) ?_
    refine WL.skip (d := 14) (by rfl) (by rfl) (by rfl) (by rfl) ?_
    refine WL.skip (d := 14) (by rfl) (by rfl) (by rfl) (by rfl) ?_
    refine WL.p (by rfl) (Yl.pickT (by rfl) (by rfl)) ?_
    refine WL.next ?_
    refine WC.condT (by rfl) ?_
    refine WC.seq ?_
    refine WL.p (by rfl) (Yl.assign (by rfl)) ?_
    refine WL.next ?_
    refine WC.ret ?_
    refine At.thenret ?_
    refine fin1' rfl (by rfl) ?_
    refine RetP.mk hs ?_
    have hne : ¬ a.slots.l = b.slots.l := by intro h; rw [h] at h1; omega
    simp [hne]
  ·
    replace h1 := not_eq_false h1
    replace h1 := of_decide_eq_true h1
    refine WL.run (d := 14) (by rfl) (by rfl) ?_
    refine WL.p (by rfl) (Yl.fieldAddr fa52_7 (by rfl)) ?_
    refine WL.run (d := 14) (by rfl) (by rfl) ?_
    refine WL.p (by rfl) (Yl.loadB sca49 (by rfl) hs (by repeat (first | exact List.mem_cons_self | apply List.mem_cons_of_mem)) (by rfl)) ?_
    refine WL.run (d := 14) (by rfl) (by rfl) ?_
    refine WL.p (by rfl) (Yl.len_sl slu49 (by rfl)) ?_
    refine WL.run (d := 14) (by rfl) (by rfl) ?_
    refine WL.p (by rfl) (Yl.fieldAddr fa52_7 (by rfl)) ?_
    refine WL.run (d := 14) (by rfl) (by rfl) ?_
    refine WL.p (by rfl) (Yl.loadB sca49 (by rfl) hs (by repeat (first | exact List.mem_cons_self | apply List.mem_cons_of_mem)) (by rfl)) ?_
    refine WL.run (d := 14) (by rfl) (by rfl) ?_
    refine WL.p (by rfl) (Yl.len_sl slu49 (by rfl)) ?_
    refine WL.run (d := 14) (by rfl) (by rfl) ?_
    refine WL.p (by rfl) (Yl.nei (by rfl) (by rfl)) ?_
    refine WL.p (by rfl) (Yl.pickF (by rfl) (by rfl)) ?_
    refine WL.next ?_
    refine WC.condS (by rfl) (fun h2 => ?_) (fun h2 => ?_)
    ·
      replace h2 := not_eq_true h2
      replace h2 := of_decide_eq_false h2
      refine WC.seq ?_
      refine WL.p (by rfl) (Yl.assign (by rfl)) ?_
      refine WL.next ?_
      refine WC.ret ?_
      refine At.thenret ?_
      refine fin1' rfl (by rfl) ?_
      refine RetP.mk hs ?_
      have hne : ¬ a.mods.l = b.mods.l := by intro h; rw [h] at h2; omega
      simp [hne]
    ·
      replace h2 := not_eq_false h2
      replace h2 := of_decide_eq_true h2
      refine WC.skipn ?_
      refine WC.seq' ?_
      refine WC.seq ?_
      refine WL.p (by rfl) (Yl.assign (by rfl)) ?_
      refine WL.next ?_
      refine WC.block ?_
      refine WC.loopC (ι := Nat) (fun k => a.slots.l.length - k) (fun k => [(5, I (k : Int))]) (fun _ => []) (fun k => decide (a.slots.l = b.slots.l ∧ a.mods.l = b.mods.l) = decide (a.slots.l.drop k = b.slots.l.drop k ∧ a.mods.l = b.mods.l)) [(0, _), (1, _), (2, _), (3, _), (7, _), (8, _), (9, _), (10, _), (11, _), (12, _), (13, _), (14, _), (15, _), (16, _), (17, _), (18, _), (19, _), (20, _), (21, _), (22, _)] 0 (hs) ⟨by rfl, by rfl, by rfl, by rfl, by rfl, by rfl, by rfl, by rfl, by rfl, by rfl, by rfl, by rfl, by rfl, by rfl, by rfl, by rfl, by rfl, by rfl, by rfl, by rfl, trivial⟩ ⟨by rfl, trivial⟩ ?_ ?_
      ·
        simp_all
      clear hs; rintro k w hJ hs
      simp only [List.nil_append] at hs
      refine WC.seq' ?_
      refine WC.seq ?_
      refine WL.p (by rfl) (Yl.move (by rfl)) ?_
      refine WL.p (by rfl) (Yl.fieldAddr fa52_6 (by rfl)) ?_
      refine WL.p (by rfl) (Yl.loadB sca48 (by rfl) hs (by repeat (first | exact List.mem_cons_self | apply List.mem_cons_of_mem)) (by rfl)) ?_
      refine WL.p (by rfl) (Yl.len_sl slu48 (by rfl)) ?_
      refine WL.p (by rfl) (Yl.lss (by rfl) (by rfl)) ?_
      refine WL.next ?_
      refine WC.condS (by rfl) (fun h3 => ?_) (fun h3 => ?_)
      ·
        replace h3 := of_decide_eq_true h3
        obtain ⟨d, hd⟩ := exists_get (l := a.slots.l) (k := k) (by omega)
        obtain ⟨d2, hd2⟩ := exists_get (l := b.slots.l) (k := k) (by omega)
        rw [drop_cons hd, drop_cons hd2] at hJ
        refine WC.skipn ?_
        refine WC.seq' ?_
        refine WC.block ?_
        refine WC.quietn mixed (by kernel_rfl) hs ?_
        refine WQ.p (by rfl) (fun w hs => Yl.fieldAddr fa52_6 (by rfl)) ?_
        refine WQ.p (by rfl) (fun w hs => Yl.loadB sca48 (by rfl) hs (by repeat (first | exact List.mem_cons_self | apply List.mem_cons_of_mem)) (by rfl)) ?_
        refine WQ.p (by rfl) (fun w hs => Yl.move (by rfl)) ?_
        refine WQ.p (by rfl) (fun w hs => Yl.indexAddr slt48 (by rfl) (by rfl) (Ph.old h_a.slots hs) (by rfl) (hd)) ?_
        refine WQ.p (by rfl) (fun w hs => Yl.loadA agg85 (by rfl) (Sl.Ok.at_ (Ph.old h_a.slots hs) (by assumption)).2 (by rfl)) ?_
        refine WQ.p (by rfl) (fun w hs => Yl.fieldAddr fa52_6 (by rfl)) ?_
        refine WQ.p (by rfl) (fun w hs => Yl.loadB sca48 (by rfl) hs (by repeat (first | exact List.mem_cons_self | apply List.mem_cons_of_mem)) (by rfl)) ?_
        refine WQ.p (by rfl) (fun w hs => Yl.move (by rfl)) ?_
        refine WQ.p (by rfl) (fun w hs => Yl.indexAddr slt48 (by rfl) (by rfl) (Ph.old h_b.slots hs) (by rfl) (hd2)) ?_
        refine WQ.p (by rfl) (fun w hs => Yl.loadA agg85 (by rfl) (Sl.Ok.at_ (Ph.old h_b.slots hs) (by assumption)).2 (by rfl)) ?_
        refine WQ.p (by rfl) (fun w hs => Yl.net eqt85 (by rfl) (by rfl)) ?_
        refine WQ.next ?_
        clear hs; intro w hs
        refine WC.condS (by rfl) (fun h4 => ?_) (fun h4 => ?_)
        ·
          replace h4 := not_eq_true h4
          replace h4 := of_decide_eq_false h4
          refine WC.seq ?_
          refine WL.p (by rfl) (Yl.assign (by rfl)) ?_
          refine WL.next ?_
          refine WC.ret ?_
          refine At.blockret ?_
          refine At.thenret ?_
          refine At.thenret ?_
          refine At.blockret ?_
          refine At.thenret ?_
          refine fin1' rfl (by rfl) ?_
          refine RetP.mk hs ?_
          rw [hJ]; simp_all
        ·
          replace h4 := not_eq_false h4
          replace h4 := of_decide_eq_true h4
          refine WC.skip ?_
          refine At.blocknormal ?_
          refine At.then_ ?_
          refine WC.region ?_
          refine WL.p (by rfl) (Yl.move (by rfl)) ?_
          refine WL.p (by rfl) (Yl.add (by rfl) (by rfl) (by omega)) ?_
          refine WL.p (by rfl) (Yl.assign (by rfl)) ?_
          refine WL.nil ?_
          refine At.roundC (k + 1) (hs.only (by repeat (first | exact Sel.nil | (apply Sel.cons; (repeat (first | exact Ext.here | apply Ext.there)))))) ⟨by rfl, by rfl, by rfl, by rfl, by rfl, by rfl, by rfl, by rfl, by rfl, by rfl, by rfl, by rfl, by rfl, by rfl, by rfl, by rfl, by rfl, by rfl, by rfl, by rfl, trivial⟩ ⟨by rfl, trivial⟩ ?_ ?_
          ·
            omega
          ·
            rw [hJ]; simp_all
      ·
        replace h3 := of_decide_eq_false h3
        rw [drop_out (l := a.slots.l) (by omega), drop_out (l := b.slots.l) (by omega)] at hJ
        refine WC.exit ?_
        refine At.thenexit ?_
        refine At.thenexit ?_
        refine At.blockexit ?_
        refine At.then_ ?_
        refine WC.seq' ?_
        refine WC.seq ?_
        refine WL.p (by rfl) (Yl.assign (by rfl)) ?_
        refine WL.next ?_
        refine WC.block ?_
        refine WC.loopC (ι := Nat) (fun k => a.mods.l.length - k) (fun k => [(6, I (k : Int))]) (fun _ => []) (fun k => decide (a.slots.l = b.slots.l ∧ a.mods.l = b.mods.l) = decide (a.mods.l.drop k = b.mods.l.drop k)) [(0, _), (1, _), (2, _), (3, _), (5, _), (7, _), (8, _), (9, _), (10, _), (11, _), (12, _), (13, _), (14, _), (15, _), (16, _), (17, _), (18, _), (19, _), (20, _), (21, _), (22, _), (23, _), (24, _), (25, _), (26, _), (27, _)] 0 (hs) ⟨by rfl, by rfl, by rfl, by rfl, by rfl, by rfl, by rfl, by rfl, by rfl, by rfl, by rfl, by rfl, by rfl, by rfl, by rfl, by rfl, by rfl, by rfl, by rfl, by rfl, by rfl, by rfl, by rfl, by rfl, by rfl, by rfl, trivial⟩ ⟨by rfl, trivial⟩ ?_ ?_
        ·
          simp_all
        clear hs; rintro k w hJ hs
        simp only [List.nil_append] at hs
        refine WC.seq' ?_
        refine WC.seq ?_
        refine WL.p (by rfl) (Yl.move (by rfl)) ?_
        refine WL.p (by rfl) (Yl.fieldAddr fa52_7 (by rfl)) ?_
        refine WL.p (by rfl) (Yl.loadB sca49 (by rfl) hs (by repeat (first | exact List.mem_cons_self | apply List.mem_cons_of_mem)) (by rfl)) ?_
        refine WL.p (by rfl) (Yl.len_sl slu49 (by rfl)) ?_
        refine WL.p (by rfl) (Yl.lss (by rfl) (by rfl)) ?_
        refine WL.next ?_
        refine WC.condS (by rfl) (fun h4 => ?_) (fun h4 => ?_)
        ·
          replace h4 := of_decide_eq_true h4
          obtain ⟨d, hd⟩ := exists_get (l := a.mods.l) (k := k) (by omega)
          obtain ⟨d2, hd2⟩ := exists_get (l := b.mods.l) (k := k) (by omega)
          rw [drop_cons hd, drop_cons hd2] at hJ
          refine WC.skipn ?_
          refine WC.seq' ?_
          refine WC.block ?_
          refine WC.quietn mixed (by kernel_rfl) hs ?_
          refine WQ.p (by rfl) (fun w hs => Yl.fieldAddr fa52_7 (by rfl)) ?_
          refine WQ.p (by rfl) (fun w hs => Yl.loadB sca49 (by rfl) hs (by repeat (first | exact List.mem_cons_self | apply List.mem_cons_of_mem)) (by rfl)) ?_
          refine WQ.p (by rfl) (fun w hs => Yl.move (by rfl)) ?_
          refine WQ.p (by rfl) (fun w hs => Yl.indexAddr slt49 (by rfl) (by rfl) (Ph.old h_a.mods hs) (by rfl) (hd)) ?_
          refine WQ.p (by rfl) (fun w hs => Yl.loadA agg88 (by rfl) (Sl.Ok.at_ (Ph.old h_a.mods hs) (by assumption)).2 (by rfl)) ?_
          refine WQ.p (by rfl) (fun w hs => Yl.fieldAddr fa52_7 (by rfl)) ?_
          refine WQ.p (by rfl) (fun w hs => Yl.loadB sca49 (by rfl) hs (by repeat (first | exact List.mem_cons_self | apply List.mem_cons_of_mem)) (by rfl)) ?_
          refine WQ.p (by rfl) (fun w hs => Yl.move (by rfl)) ?_
          refine WQ.p (by rfl) (fun w hs => Yl.indexAddr slt49 (by rfl) (by rfl) (Ph.old h_b.mods hs) (by rfl) (hd2)) ?_
          refine WQ.p (by rfl) (fun w hs => Yl.loadA agg88 (by rfl) (Sl.Ok.at_ (Ph.old h_b.mods hs) (by assumption)).2 (by rfl)) ?_
          refine WQ.p (by rfl) (fun w hs => Yl.net eqt88 (by rfl) (by rfl)) ?_
          refine WQ.next ?_
          clear hs; intro w hs
          refine WC.condS (by rfl) (fun h5 => ?_) (fun h5 => ?_)
          ·
            replace h5 := not_eq_true h5
            replace h5 := of_decide_eq_false h5
            refine WC.seq ?_
            refine WL.p (by rfl) (Yl.assign (by rfl)) ?_
            refine WL.next ?_
            refine WC.ret ?_
            refine At.blockret ?_
            refine At.thenret ?_
            refine At.thenret ?_
            refine At.blockret ?_
            refine At.thenret ?_
            refine fin1' rfl (by rfl) ?_
            refine RetP.mk hs ?_
            rw [hJ]; simp_all
          ·
            replace h5 := not_eq_false h5
            replace h5 := of_decide_eq_true h5
            refine WC.skip ?_
            refine At.blocknormal ?_
            refine At.then_ ?_
            refine WC.region ?_
            refine WL.p (by rfl) (Yl.move (by rfl)) ?_
            refine WL.p (by rfl) (Yl.add (by rfl) (by rfl) (by omega)) ?_
            refine WL.p (by rfl) (Yl.assign (by rfl)) ?_
            refine WL.nil ?_
            refine At.roundC (k + 1) (hs.only (by repeat (first | exact Sel.nil | (apply Sel.cons; (repeat (first | exact Ext.here | apply Ext.there)))))) ⟨by rfl, by rfl, by rfl, by rfl, by rfl, by rfl, by rfl, by rfl, by rfl, by rfl, by rfl, by rfl, by rfl, by rfl, by rfl, by rfl, by rfl, by rfl, by rfl, by rfl, by rfl, by rfl, by rfl, by rfl, by rfl, by rfl, trivial⟩ ⟨by rfl, trivial⟩ ?_ ?_
            ·
              omega
            ·
              rw [hJ]; simp_all
        ·
          replace h4 := of_decide_eq_false h4
          rw [drop_out (l := a.mods.l) (by omega), drop_out (l := b.mods.l) (by omega)] at hJ
          refine WC.exit ?_
          refine At.thenexit ?_
          refine At.thenexit ?_
          refine At.blockexit ?_
          refine At.then_ ?_
          refine WC.seq ?_
          refine WL.p (by rfl) (Yl.assign (by rfl)) ?_
          refine WL.next ?_
          refine WC.ret ?_
          refine fin1' rfl (by rfl) ?_
          refine RetP.mk hs ?_
          rw [hJ]; simp_all

theorem c_spec_l15Addrs (a : (Sl TAddr)) (b : (Sl TAddr)) (w : World) (h_a : Ph.ok w a) (h_b : Ph.ok w b)  : Calls Try.prog 22 [Sl.v a, Sl.v b].toArray w (RetP w (Bo (decide (a.l = b.l)))) := by
  have hw := h_a.lt
  refine enterN 26 Try.func22 rfl rfl rfl ?_
  have hs := Sat.start w
  refine WC.seq ?_
  refine WL.p (by rfl) (Yl.assign (by rfl)) ?_
  refine WL.next ?_
  refine WC.seq' ?_
  refine WC.seq ?_
  refine WL.p (by rfl) (Yl.move (by rfl)) ?_
  refine WL.p (by rfl) (Yl.len_sl slu50 (by rfl)) ?_
  refine WL.p (by rfl) (Yl.move (by rfl)) ?_
  refine WL.p (by rfl) (Yl.len_sl slu50 (by rfl)) ?_
  refine WL.p (by rfl) (Yl.nei (by rfl) (by rfl)) ?_
  refine WL.next ?_
  refine WC.condS (by rfl) (fun h1 => ?_) (fun h1 => ?_)
  ·
    replace h1 := not_eq_true h1
    replace h1 := of_decide_eq_false h1
    refine WC.seq ?_
    refine WL.p (by rfl) (Yl.assign (by rfl)) ?_
    refine WL.next ?_
    refine WC.ret ?_
    refine At.thenret ?_
    refine fin1' rfl (by rfl) ?_
    refine RetP.mk hs ?_
    have hne : ¬ a.l = b.l := by
      intro h
      have h2 := congrArg List.length h
      try simp at h2
      omega
    simp only [hne, decide_false]
  ·
    replace h1 := not_eq_false h1
    replace h1 := of_decide_eq_true h1
    refine WC.skipn ?_
    refine WC.seq' ?_
    refine WC.seq ?_
    refine WL.p (by rfl) (Yl.assign (by rfl)) ?_
    refine WL.next ?_
    refine WC.block ?_
    refine WC.loopC (ι := Nat) (fun k => a.l.length - k) (fun k => [(5, I (k : Int))]) (fun _ => []) (fun k => decide (a.l = b.l) = decide (a.l.drop k = b.l.drop k)) [(0, _), (1, _), (6, _), (7, _), (8, _), (9, _), (10, _)] 0 (hs) ⟨by rfl, by rfl, by rfl, by rfl, by rfl, by rfl, by rfl, trivial⟩ ⟨by rfl, trivial⟩ ?_ ?_
    ·
      simp
    clear hs; rintro k w hJ hs
    simp only [List.nil_append] at hs
    refine WC.seq' ?_
    refine WC.seq ?_
    refine WL.p (by rfl) (Yl.move (by rfl)) ?_
    refine WL.p (by rfl) (Yl.move (by rfl)) ?_
    refine WL.p (by rfl) (Yl.len_sl slu50 (by rfl)) ?_
    refine WL.p (by rfl) (Yl.lss (by rfl) (by rfl)) ?_
    refine WL.next ?_
    refine WC.condS (by rfl) (fun h2 => ?_) (fun h2 => ?_)
    ·
      replace h2 := of_decide_eq_true h2
      obtain ⟨d, hd⟩ := exists_get (l := a.l) (k := k) (by omega)
      obtain ⟨d2, hd2⟩ := exists_get (l := b.l) (k := k) (by omega)
      rw [drop_cons hd, drop_cons hd2] at hJ
      refine WC.skipn ?_
      refine WC.seq' ?_
      refine WC.block ?_
      refine WC.quietn mixed (by kernel_rfl) hs ?_
      refine WQ.p (by rfl) (fun w hs => Yl.move (by rfl)) ?_
      refine WQ.p (by rfl) (fun w hs => Yl.move (by rfl)) ?_
      refine WQ.p (by rfl) (fun w hs => Yl.indexAddr slt50 (by rfl) (by rfl) (Ph.old h_a hs) (by rfl) (hd)) ?_
      refine WQ.p (by rfl) (fun w hs => Yl.loadA agg41 (by rfl) (Sl.Ok.at_ (Ph.old h_a hs) (by assumption)).2 (by rfl)) ?_
      refine WQ.p (by rfl) (fun w hs => Yl.move (by rfl)) ?_
      refine WQ.p (by rfl) (fun w hs => Yl.move (by rfl)) ?_
      refine WQ.p (by rfl) (fun w hs => Yl.indexAddr slt50 (by rfl) (by rfl) (Ph.old h_b hs) (by rfl) (hd2)) ?_
      refine WQ.p (by rfl) (fun w hs => Yl.loadA agg41 (by rfl) (Sl.Ok.at_ (Ph.old h_b hs) (by assumption)).2 (by rfl)) ?_
      refine WQ.p (by rfl) (fun w hs => Yl.net eqt41 (by rfl) (by rfl)) ?_
      refine WQ.next ?_
      clear hs; intro w hs
      refine WC.condS (by rfl) (fun h3 => ?_) (fun h3 => ?_)
      ·
        replace h3 := not_eq_true h3
        replace h3 := of_decide_eq_false h3
        refine WC.seq ?_
        refine WL.p (by rfl) (Yl.assign (by rfl)) ?_
        refine WL.next ?_
        refine WC.ret ?_
        refine At.blockret ?_
        refine At.thenret ?_
        refine At.thenret ?_
        refine At.blockret ?_
        refine At.thenret ?_
        refine fin1' rfl (by rfl) ?_
        refine RetP.mk hs ?_
        rw [hJ]; simp_all
      ·
        replace h3 := not_eq_false h3
        replace h3 := of_decide_eq_true h3
        refine WC.skip ?_
        refine At.blocknormal ?_
        refine At.then_ ?_
        refine WC.region ?_
        refine WL.p (by rfl) (Yl.move (by rfl)) ?_
        refine WL.p (by rfl) (Yl.add (by rfl) (by rfl) (by omega)) ?_
        refine WL.p (by rfl) (Yl.assign (by rfl)) ?_
        refine WL.nil ?_
        refine At.roundC (k + 1) (hs.only (by repeat (first | exact Sel.nil | (apply Sel.cons; (repeat (first | exact Ext.here | apply Ext.there)))))) ⟨by rfl, by rfl, by rfl, by rfl, by rfl, by rfl, by rfl, trivial⟩ ⟨by rfl, trivial⟩ ?_ ?_
        ·
          omega
        ·
          rw [hJ]; simp_all
    ·
      replace h2 := of_decide_eq_false h2
      rw [drop_out (l := a.l) (by omega), drop_out (l := b.l) (by omega)] at hJ
      refine WC.exit ?_
      refine At.thenexit ?_
      refine At.thenexit ?_
      refine At.blockexit ?_
      refine At.then_ ?_
      refine WC.seq ?_
      refine WL.p (by rfl) (Yl.assign (by rfl)) ?_
      refine WL.next ?_
      refine WC.ret ?_
      refine fin1' rfl (by rfl) ?_
      refine RetP.mk hs ?_
      rw [hJ]; simp_all

theorem c_spec_l15Texts (a : (Sl Str)) (b : (Sl Str)) (w : World) (h_a : Ph.ok w a) (h_b : Ph.ok w b)  : Calls Try.prog 23 [Sl.v a, Sl.v b].toArray w (RetP w (Bo (decide (a.l = b.l)))) := by
  refine enterN 8 Try.func23 rfl rfl rfl ?_
  have hs := Sat.start w
  refine WC.seq ?_
  refine WL.p (by rfl) (Yl.assign (by rfl)) ?_
  refine WL.next ?_
  refine WC.seq ?_
  refine WL.p (by rfl) (Yl.move (by rfl)) ?_
  refine WL.p (by rfl) (Yl.move (by rfl)) ?_
  refine WL.callp hs (by rfl) (Yc.func (by rfl) fn55) (c_spec_l9Same _ _ _ (Ph.old h_a hs) (Ph.old h_b hs)) ?_
  clear hs; intro w hs
  refine WL.p (by rfl) (Yl.assign (by rfl)) ?_
  refine WL.next ?_
  refine WC.ret ?_
  refine fin1' rfl (by rfl) ?_
  refine RetP.mk hs ?_
  rfl

set_option maxRecDepth 100000 in
theorem c_spec_EqualPages (a : PPage) (b : PPage) (w : World) (h_a : Ph.ok w a) (h_b : Ph.ok w b) (hb1 : a.lg.size ≤ 1048576) (hb2 : b.lg.size ≤ 1048576) : Calls Try.prog 5 [.agg #[S a.addr.host, S a.addr.path, Bo a.policy.set, Sl.v a.policy.scripts, Sl.v a.policy.styles, Sl.v a.policy.images, S a.policy.nonce, S a.tok.rest, Sl.v a.queue, Bo a.ended, Sl.v a.builder.nodes, Sl.v a.builder.opn, Sl.v a.slots, Sl.v a.mods, Sl.v a.entries, I a.block, I a.inln, I a.deferred, I a.entered, Sl.v a.ran, Sl.v a.log, Bo a.loaded], .agg #[S b.addr.host, S b.addr.path, Bo b.policy.set, Sl.v b.policy.scripts, Sl.v b.policy.styles, Sl.v b.policy.images, S b.policy.nonce, S b.tok.rest, Sl.v b.queue, Bo b.ended, Sl.v b.builder.nodes, Sl.v b.builder.opn, Sl.v b.slots, Sl.v b.mods, Sl.v b.entries, I b.block, I b.inln, I b.deferred, I b.entered, Sl.v b.ran, Sl.v b.log, Bo b.loaded]].toArray w (RetP w (Bo (decide (a.lg = b.lg)))) := by
  refine enterN 104 Try.func5 rfl rfl rfl ?_
  have hs := Sat.start w
  refine WC.seq ?_
  refine WL.r (by rfl) (Yr.box hs (by rfl) (by rfl)) ?_
  clear hs; rintro _ w ⟨b1, rfl, hb, hs⟩; clear hb
  refine WL.r (by rfl) (Yr.box hs (by rfl) (by rfl)) ?_
  clear hs; rintro _ w ⟨b2, rfl, hb, hs⟩; clear hb
  refine WL.p (by rfl) (Yl.assign (by rfl)) ?_
  refine WL.next ?_
  refine WC.seq' ?_
  refine WC.seq ?_
  refine WL.p (by rfl) (Yl.fieldAddr fa52_0 (by rfl)) ?_
  refine WL.p (by rfl) (Yl.loadAB agg41 (by rfl) hs (by repeat (first | exact List.mem_cons_self | apply List.mem_cons_of_mem)) (by rfl) (by rfl)) ?_
  refine WL.p (by rfl) (Yl.fieldAddr fa52_0 (by rfl)) ?_
  refine WL.p (by rfl) (Yl.loadAB agg41 (by rfl) hs (by repeat (first | exact List.mem_cons_self | apply List.mem_cons_of_mem)) (by rfl) (by rfl)) ?_
  refine WL.p (by rfl) (Yl.net eqt41 (by rfl) (by rfl)) ?_
  refine WL.p (by rfl) (Yl.move (by rfl)) ?_
  refine WL.split (d := 10) (by rfl) (fun h1 => ?_) (fun h1 => ?_)
  ·
    replace h1 := not_eq_true h1
    replace h1 := of_decide_eq_false h1
    refine WL.skip (d := 10) (by rfl) (by rfl) (by rfl) (by rfl) ?_
    refine WL.skip (d := 10) (by rfl) (by rfl) (by rfl) (by rfl) ?_
    refine WL.skip (d := 10) (by rfl) (by rfl) (by rfl) (by rfl) ?_
    refine WL.skip (d := 10) (by rfl) (by rfl) (by rfl) (by rfl) ?_
    refine WL.skip (d := 10) (by rfl) (by rfl) (by rfl) (by rfl) ?_
    refine WL.p (by rfl) (Yl.pickT (by rfl) (by rfl)) ?_
    refine WL.p (by rfl) (Yl.move (by rfl)) ?_
    refine WL.skip (d := 17) (by rfl) (by rfl) (by rfl) (by rfl) ?_
    refine WL.skip (d := 17) (by rfl) (by rfl) (by rfl) (by rfl) ?_
    refine WL.skip (d := 17) (by rfl) (by rfl) (by rfl) (by rfl) ?_
    refine WL.skip (d := 17) (by rfl) (by rfl) (by rfl) (by rfl) ?_
    refine WL.skip (d := 17) (by rfl) (by rfl) (by rfl) (by rfl) ?_
    refine WL.p (by rfl) (Yl.pickT (by rfl) (by rfl)) ?_
    refine WL.p (by rfl) (Yl.move (by rfl)) ?_
    refine WL.skip (d := 24) (by rfl) (by rfl) (by rfl) (by rfl) ?_
    refine WL.skip (d := 24) (by rfl) (by rfl) (by rfl) (by rfl) ?_
    refine WL.skip (d := 24) (by rfl) (by rfl) (by rfl) (by rfl) ?_
    refine WL.skip (d := 24) (by rfl) (by rfl) (by rfl) (by rfl) ?_
    refine WL.skip (d := 24) (by rfl) (by rfl) (by rfl) (by rfl) ?_
    refine WL.p (by rfl) (Yl.pickT (by rfl) (by rfl)) ?_
    refine WL.p (by rfl) (Yl.move (by rfl)) ?_
    refine WL.skip (d := 31) (by rfl) (by rfl) (by rfl) (by rfl) ?_
    refine WL.skip (d := 31) (by rfl) (by rfl) (by rfl) (by rfl) ?_
    refine WL.skip (d := 31) (by rfl) (by rfl) (by rfl) (by rfl) ?_
    refine WL.skip (d := 31) (by rfl) (by rfl) (by rfl) (by rfl) ?_
    refine WL.skip (d := 31) (by rfl) (by rfl) (by rfl) (by rfl) ?_
    refine WL.p (by rfl) (Yl.pickT (by rfl) (by rfl)) ?_
    refine WL.p (by rfl) (Yl.move (by rfl)) ?_
    refine WL.skip (d := 38) (by rfl) (by rfl) (by rfl) (by rfl) ?_
    refine WL.skip (d := 38) (by rfl) (by rfl) (by rfl) (by rfl) ?_
    refine WL.skip (d := 38) (by rfl) (by rfl) (by rfl) (by rfl) ?_
    refine WL.skip (d := 38) (by rfl) (by rfl) (by rfl) (by rfl) ?_
    refine WL.skip (d := 38) (by rfl) (by rfl) (by rfl) (by rfl) ?_
    refine WL.p (by rfl) (Yl.pickT (by rfl) (by rfl)) ?_
    refine WL.p (by rfl) (Yl.move (by rfl)) ?_
    refine WL.skip (d := 45) (by rfl) (by rfl) (by rfl) (by rfl) ?_
    refine WL.skip (d := 45) (by rfl) (by rfl) (by rfl) (by rfl) ?_
    refine WL.skip (d := 45) (by rfl) (by rfl) (by rfl) (by rfl) ?_
    refine WL.skip (d := 45) (by rfl) (by rfl) (by rfl) (by rfl) ?_
    refine WL.skip (d := 45) (by rfl) (by rfl) (by rfl) (by rfl) ?_
    refine WL.p (by rfl) (Yl.pickT (by rfl) (by rfl)) ?_
    refine WL.p (by rfl) (Yl.move (by rfl)) ?_
    refine WL.skip (d := 52) (by rfl) (by rfl) (by rfl) (by rfl) ?_
    refine WL.skip (d := 52) (by rfl) (by rfl) (by rfl) (by rfl) ?_
    refine WL.skip (d := 52) (by rfl) (by rfl) (by rfl) (by rfl) ?_
    refine WL.skip (d := 52) (by rfl) (by rfl) (by rfl) (by rfl) ?_
    refine WL.skip (d := 52) (by rfl) (by rfl) (by rfl) (by rfl) ?_
    refine WL.p (by rfl) (Yl.pickT (by rfl) (by rfl)) ?_
    refine WL.next ?_
    refine WC.condT (by rfl) ?_
    refine WC.seq ?_
    refine WL.p (by rfl) (Yl.assign (by rfl)) ?_
    refine WL.next ?_
    refine WC.ret ?_
    refine At.thenret ?_
    refine fin1' rfl (by rfl) ?_
    refine RetP.mk hs ?_
    try simp only [eqWith_map] at *
    simp_all [TPage.ext_iff, Bool.beq_eq_decide_eq]
  ·
    replace h1 := not_eq_false h1
    replace h1 := of_decide_eq_true h1
    refine WL.run (d := 10) (by rfl) (by rfl) ?_
    refine WL.p (by rfl) (Yl.fieldAddr fa52_2 (by rfl)) ?_
    refine WL.run (d := 10) (by rfl) (by rfl) ?_
    refine WL.p (by rfl) (Yl.loadAB agg43 (by rfl) hs (by repeat (first | exact List.mem_cons_self | apply List.mem_cons_of_mem)) (by rfl) (by rfl)) ?_
    refine WL.run (d := 10) (by rfl) (by rfl) ?_
    refine WL.p (by rfl) (Yl.fieldAddr fa52_2 (by rfl)) ?_
    refine WL.run (d := 10) (by rfl) (by rfl) ?_
    refine WL.p (by rfl) (Yl.loadAB agg43 (by rfl) hs (by repeat (first | exact List.mem_cons_self | apply List.mem_cons_of_mem)) (by rfl) (by rfl)) ?_
    refine WL.run (d := 10) (by rfl) (by rfl) ?_
    refine WL.p (by rfl) (Yl.net eqt43 (by rfl) (by rfl)) ?_
    refine WL.p (by rfl) (Yl.pickF (by rfl) (by rfl)) ?_
    refine WL.p (by rfl) (Yl.move (by rfl)) ?_
    refine WL.split (d := 17) (by rfl) (fun h2 => ?_) (fun h2 => ?_)
    ·
      replace h2 := not_eq_true h2
      replace h2 := of_decide_eq_false h2
      refine WL.skip (d := 17) (by rfl) (by rfl) (by rfl) (by rfl) ?_
      refine WL.skip (d := 17) (by rfl) (by rfl) (by rfl) (by rfl) ?_
      refine WL.skip (d := 17) (by rfl) (by rfl) (by rfl) (by rfl) ?_
      refine WL.skip (d := 17) (by rfl) (by rfl) (by rfl) (by rfl) ?_
      refine WL.skip (d := 17) (by rfl) (by rfl) (by rfl) (by rfl) ?_
      refine WL.p (by rfl) (Yl.pickT (by rfl) (by rfl)) ?_
      refine WL.p (by rfl) (Yl.move (by rfl)) ?_
      refine WL.skip (d := 24) (by rfl) (by rfl) (by rfl) (by rfl) ?_
      refine WL.skip (d := 24) (by rfl) (by rfl) (by rfl) (by rfl) ?_
      refine WL.skip (d := 24) (by rfl) (by rfl) (by rfl) (by rfl) ?_
      refine WL.skip (d := 24) (by rfl) (by rfl) (by rfl) (by rfl) ?_
      refine WL.skip (d := 24) (by rfl) (by rfl) (by rfl) (by rfl) ?_
      refine WL.p (by rfl) (Yl.pickT (by rfl) (by rfl)) ?_
      refine WL.p (by rfl) (Yl.move (by rfl)) ?_
      refine WL.skip (d := 31) (by rfl) (by rfl) (by rfl) (by rfl) ?_
      refine WL.skip (d := 31) (by rfl) (by rfl) (by rfl) (by rfl) ?_
      refine WL.skip (d := 31) (by rfl) (by rfl) (by rfl) (by rfl) ?_
      refine WL.skip (d := 31) (by rfl) (by rfl) (by rfl) (by rfl) ?_
      refine WL.skip (d := 31) (by rfl) (by rfl) (by rfl) (by rfl) ?_
      refine WL.p (by rfl) (Yl.pickT (by rfl) (by rfl)) ?_
      refine WL.p (by rfl) (Yl.move (by rfl)) ?_
      refine WL.skip (d := 38) (by rfl) (by rfl) (by rfl) (by rfl) ?_
      refine WL.skip (d := 38) (by rfl) (by rfl) (by rfl) (by rfl) ?_
      refine WL.skip (d := 38) (by rfl) (by rfl) (by rfl) (by rfl) ?_
      refine WL.skip (d := 38) (by rfl) (by rfl) (by rfl) (by rfl) ?_
      refine WL.skip (d := 38) (by rfl) (by rfl) (by rfl) (by rfl) ?_
      refine WL.p (by rfl) (Yl.pickT (by rfl) (by rfl)) ?_
      refine WL.p (by rfl) (Yl.move (by rfl)) ?_
      refine WL.skip (d := 45) (by rfl) (by rfl) (by rfl) (by rfl) ?_
      refine WL.skip (d := 45) (by rfl) (by rfl) (by rfl) (by rfl) ?_
      refine WL.skip (d := 45) (by rfl) (by rfl) (by rfl) (by rfl) ?_
      refine WL.skip (d := 45) (by rfl) (by rfl) (by rfl) (by rfl) ?_
      refine WL.skip (d := 45) (by rfl) (by rfl) (by rfl) (by rfl) ?_
      refine WL.p (by rfl) (Yl.pickT (by rfl) (by rfl)) ?_
      refine WL.p (by rfl) (Yl.move (by rfl)) ?_
      refine WL.skip (d := 52) (by rfl) (by rfl) (by rfl) (by rfl) ?_
      refine WL.skip (d := 52) (by rfl) (by rfl) (by rfl) (by rfl) ?_
      refine WL.skip (d := 52) (by rfl) (by rfl) (by rfl) (by rfl) ?_
      refine WL.skip (d := 52) (by rfl) (by rfl) (by rfl) (by rfl) ?_
      refine WL.skip (d := 52) (by rfl) (by rfl) (by rfl) (by rfl) ?_
      refine WL.p (by rfl) (Yl.pickT (by rfl) (by rfl)) ?_
      refine WL.next ?_
      refine WC.condT (by rfl) ?_
      refine WC.seq ?_
      refine WL.p (by rfl) (Yl.assign (by rfl)) ?_
      refine WL.next ?_
      refine WC.ret ?_
      refine At.thenret ?_
      refine fin1' rfl (by rfl) ?_
      refine RetP.mk hs ?_
      try simp only [eqWith_map] at *
      simp_all [TPage.ext_iff, Bool.beq_eq_decide_eq]
    ·
      replace h2 := not_eq_false h2
      replace h2 := of_decide_eq_true h2
      refine WL.run (d := 17) (by rfl) (by rfl) ?_
      refine WL.p (by rfl) (Yl.fieldAddr fa52_4 (by rfl)) ?_
      refine WL.run (d := 17) (by rfl) (by rfl) ?_
      refine WL.p (by rfl) (Yl.loadB sca4 (by rfl) hs (by repeat (first | exact List.mem_cons_self | apply List.mem_cons_of_mem)) (by rfl)) ?_
      refine WL.run (d := 17) (by rfl) (by rfl) ?_
      refine WL.p (by rfl) (Yl.fieldAddr fa52_4 (by rfl)) ?_
      refine WL.run (d := 17) (by rfl) (by rfl) ?_
      refine WL.p (by rfl) (Yl.loadB sca4 (by rfl) hs (by repeat (first | exact List.mem_cons_self | apply List.mem_cons_of_mem)) (by rfl)) ?_
      refine WL.run (d := 17) (by rfl) (by rfl) ?_
      refine WL.p (by rfl) (Yl.neb bool4 (by rfl) (by rfl)) ?_
      refine WL.p (by rfl) (Yl.pickF (by rfl) (by rfl)) ?_
      refine WL.p (by rfl) (Yl.move (by rfl)) ?_
      refine WL.split (d := 24) (by rfl) (fun h3 => ?_) (fun h3 => ?_)
      ·
        replace h3 := not_eq_true h3
        replace h3 := beq_false h3
        refine WL.skip (d := 24) (by rfl) (by rfl) (by rfl) (by rfl) ?_
        refine WL.skip (d := 24) (by rfl) (by rfl) (by rfl) (by rfl) ?_
        refine WL.skip (d := 24) (by rfl) (by rfl) (by rfl) (by rfl) ?_
        refine WL.skip (d := 24) (by rfl) (by rfl) (by rfl) (by rfl) ?_
        refine WL.skip (d := 24) (by rfl) (by rfl) (by rfl) (by rfl) ?_
        refine WL.p (by rfl) (Yl.pickT (by rfl) (by rfl)) ?_
        refine WL.p (by rfl) (Yl.move (by rfl)) ?_
        refine WL.skip (d := 31) (by rfl) (by rfl) (by rfl) (by rfl) ?_
        refine WL.skip (d := 31) (by rfl) (by rfl) (by rfl) (by rfl) ?_
        refine WL.skip (d := 31) (by rfl) (by rfl) (by rfl) (by rfl) ?_
        refine WL.skip (d := 31) (by rfl) (by rfl) (by rfl) (by rfl) ?_
        refine WL.skip (d := 31) (by rfl) (by rfl) (by rfl) (by rfl) ?_
        refine WL.p (by rfl) (Yl.pickT (by rfl) (by rfl)) ?_
        refine WL.p (by rfl) (Yl.move (by rfl)) ?_
        refine WL.skip (d := 38) (by rfl) (by rfl) (by rfl) (by rfl) ?_
        refine WL.skip (d := 38) (by rfl) (by rfl) (by rfl) (by rfl) ?_
        refine WL.skip (d := 38) (by rfl) (by rfl) (by rfl) (by rfl) ?_
        refine WL.skip (d := 38) (by rfl) (by rfl) (by rfl) (by rfl) ?_
        refine WL.skip (d := 38) (by rfl) (by rfl) (by rfl) (by rfl) ?_
        refine WL.p (by rfl) (Yl.pickT (by rfl) (by rfl)) ?_
        refine WL.p (by rfl) (Yl.move (by rfl)) ?_
        refine WL.skip (d := 45) (by rfl) (by rfl) (by rfl) (by rfl) ?_
        refine WL.skip (d := 45) (by rfl) (by rfl) (by rfl) (by rfl) ?_
        refine WL.skip (d := 45) (by rfl) (by rfl) (by rfl) (by rfl) ?_
        refine WL.skip (d := 45) (by rfl) (by rfl) (by rfl) (by rfl) ?_
        refine WL.skip (d := 45) (by rfl) (by rfl) (by rfl) (by rfl) ?_
        refine WL.p (by rfl) (Yl.pickT (by rfl) (by rfl)) ?_
        refine WL.p (by rfl) (Yl.move (by rfl)) ?_
        refine WL.skip (d := 52) (by rfl) (by rfl) (by rfl) (by rfl) ?_
        refine WL.skip (d := 52) (by rfl) (by rfl) (by rfl) (by rfl) ?_
        refine WL.skip (d := 52) (by rfl) (by rfl) (by rfl) (by rfl) ?_
        refine WL.skip (d := 52) (by rfl) (by rfl) (by rfl) (by rfl) ?_
        refine WL.skip (d := 52) (by rfl) (by rfl) (by rfl) (by rfl) ?_
        refine WL.p (by rfl) (Yl.pickT (by rfl) (by rfl)) ?_
        refine WL.next ?_
        refine WC.condT (by rfl) ?_
        refine WC.seq ?_
        refine WL.p (by rfl) (Yl.assign (by rfl)) ?_
        refine WL.next ?_
        refine WC.ret ?_
        refine At.thenret ?_
        refine fin1' rfl (by rfl) ?_
        refine RetP.mk hs ?_
        try simp only [eqWith_map] at *
        simp_all [TPage.ext_iff, Bool.beq_eq_decide_eq]
      ·
        replace h3 := not_eq_false h3
        replace h3 := beq_true h3
        refine WL.run (d := 24) (by rfl) (by rfl) ?_
        refine WL.p (by rfl) (Yl.fieldAddr fa52_9 (by rfl)) ?_
        refine WL.run (d := 24) (by rfl) (by rfl) ?_
        refine WL.p (by rfl) (Yl.loadB sca3 (by rfl) hs (by repeat (first | exact List.mem_cons_self | apply List.mem_cons_of_mem)) (by rfl)) ?_
        refine WL.run (d := 24) (by rfl) (by rfl) ?_
        refine WL.p (by rfl) (Yl.fieldAddr fa52_9 (by rfl)) ?_
        refine WL.run (d := 24) (by rfl) (by rfl) ?_
        refine WL.p (by rfl) (Yl.loadB sca3 (by rfl) hs (by repeat (first | exact List.mem_cons_self | apply List.mem_cons_of_mem)) (by rfl)) ?_
        refine WL.run (d := 24) (by rfl) (by rfl) ?_
        refine WL.p (by rfl) (Yl.nei (by rfl) (by rfl)) ?_
        refine WL.p (by rfl) (Yl.pickF (by rfl) (by rfl)) ?_
        refine WL.p (by rfl) (Yl.move (by rfl)) ?_
        refine WL.split (d := 31) (by rfl) (fun h4 => ?_) (fun h4 => ?_)
        ·
          replace h4 := not_eq_true h4
          replace h4 := of_decide_eq_false h4
          refine WL.skip (d := 31) (by rfl) (by rfl) (by rfl) (by rfl) ?_
          refine WL.skip (d := 31) (by rfl) (by rfl) (by rfl) (by rfl) ?_
          refine WL.skip (d := 31) (by rfl) (by rfl) (by rfl) (by rfl) ?_
          refine WL.skip (d := 31) (by rfl) (by rfl) (by rfl) (by rfl) ?_
          refine WL.skip (d := 31) (by rfl) (by rfl) (by rfl) (by rfl) ?_
          refine WL.p (by rfl) (Yl.pickT (by rfl) (by rfl)) ?_
          refine WL.p (by rfl) (Yl.move (by rfl)) ?_
          refine WL.skip (d := 38) (by rfl) (by rfl) (by rfl) (by rfl) ?_
          refine WL.skip (d := 38) (by rfl) (by rfl) (by rfl) (by rfl) ?_
          refine WL.skip (d := 38) (by rfl) (by rfl) (by rfl) (by rfl) ?_
          refine WL.skip (d := 38) (by rfl) (by rfl) (by rfl) (by rfl) ?_
          refine WL.skip (d := 38) (by rfl) (by rfl) (by rfl) (by rfl) ?_
          refine WL.p (by rfl) (Yl.pickT (by rfl) (by rfl)) ?_
          refine WL.p (by rfl) (Yl.move (by rfl)) ?_
          refine WL.skip (d := 45) (by rfl) (by rfl) (by rfl) (by rfl) ?_
          refine WL.skip (d := 45) (by rfl) (by rfl) (by rfl) (by rfl) ?_
          refine WL.skip (d := 45) (by rfl) (by rfl) (by rfl) (by rfl) ?_
          refine WL.skip (d := 45) (by rfl) (by rfl) (by rfl) (by rfl) ?_
          refine WL.skip (d := 45) (by rfl) (by rfl) (by rfl) (by rfl) ?_
          refine WL.p (by rfl) (Yl.pickT (by rfl) (by rfl)) ?_
          refine WL.p (by rfl) (Yl.move (by rfl)) ?_
          refine WL.skip (d := 52) (by rfl) (by rfl) (by rfl) (by rfl) ?_
          refine WL.skip (d := 52) (by rfl) (by rfl) (by rfl) (by rfl) ?_
          refine WL.skip (d := 52) (by rfl) (by rfl) (by rfl) (by rfl) ?_
          refine WL.skip (d := 52) (by rfl) (by rfl) (by rfl) (by rfl) ?_
          refine WL.skip (d := 52) (by rfl) (by rfl) (by rfl) (by rfl) ?_
          refine WL.p (by rfl) (Yl.pickT (by rfl) (by rfl)) ?_
          refine WL.next ?_
          refine WC.condT (by rfl) ?_
          refine WC.seq ?_
          refine WL.p (by rfl) (Yl.assign (by rfl)) ?_
          refine WL.next ?_
          refine WC.ret ?_
          refine At.thenret ?_
          refine fin1' rfl (by rfl) ?_
          refine RetP.mk hs ?_
          try simp only [eqWith_map] at *
          simp_all [TPage.ext_iff, Bool.beq_eq_decide_eq]
        ·
          replace h4 := not_eq_false h4
          replace h4 := of_decide_eq_true h4
          refine WL.run (d := 31) (by rfl) (by rfl) ?_
          refine WL.p (by rfl) (Yl.fieldAddr fa52_10 (by rfl)) ?_
          refine WL.run (d := 31) (by rfl) (by rfl) ?_
          refine WL.p (by rfl) (Yl.loadB sca3 (by rfl) hs (by repeat (first | exact List.mem_cons_self | apply List.mem_cons_of_mem)) (by rfl)) ?_
          refine WL.run (d := 31) (by rfl) (by rfl) ?_
          refine WL.p (by rfl) (Yl.fieldAddr fa52_10 (by rfl)) ?_
          refine WL.run (d := 31) (by rfl) (by rfl) ?_
          refine WL.p (by rfl) (Yl.loadB sca3 (by rfl) hs (by repeat (first | exact List.mem_cons_self | apply List.mem_cons_of_mem)) (by rfl)) ?_
          refine WL.run (d := 31) (by rfl) (by rfl) ?_
          refine WL.p (by rfl) (Yl.nei (by rfl) (by rfl)) ?_
          refine WL.p (by rfl) (Yl.pickF (by rfl) (by rfl)) ?_
          refine WL.p (by rfl) (Yl.move (by rfl)) ?_
          refine WL.split (d := 38) (by rfl) (fun h5 => ?_) (fun h5 => ?_)
          ·
            replace h5 := not_eq_true h5
            replace h5 := of_decide_eq_false h5
            refine WL.skip (d := 38) (by rfl) (by rfl) (by rfl) (by rfl) ?_
            refine WL.skip (d := 38) (by rfl) (by rfl) (by rfl) (by rfl) ?_
            refine WL.skip (d := 38) (by rfl) (by rfl) (by rfl) (by rfl) ?_
            refine WL.skip (d := 38) (by rfl) (by rfl) (by rfl) (by rfl) ?_
            refine WL.skip (d := 38) (by rfl) (by rfl) (by rfl) (by rfl) ?_
            refine WL.p (by rfl) (Yl.pickT (by rfl) (by rfl)) ?_
            refine WL.p (by rfl) (Yl.move (by rfl)) ?_
            refine WL.skip (d := 45) (by rfl) (by rfl) (by rfl) (by rfl) ?_
            refine WL.skip (d := 45) (by rfl) (by rfl) (by rfl) (by rfl) ?_
            refine WL.skip (d := 45) (by rfl) (by rfl) (by rfl) (by rfl) ?_
            refine WL.skip (d := 45) (by rfl) (by rfl) (by rfl) (by rfl) ?_
            refine WL.skip (d := 45) (by rfl) (by rfl) (by rfl) (by rfl) ?_
            refine WL.p (by rfl) (Yl.pickT (by rfl) (by rfl)) ?_
            refine WL.p (by rfl) (Yl.move (by rfl)) ?_
            refine WL.skip (d := 52) (by rfl) (by rfl) (by rfl) (by rfl) ?_
            refine WL.skip (d := 52) (by rfl) (by rfl) (by rfl) (by rfl) ?_
            refine WL.skip (d := 52) (by rfl) (by rfl) (by rfl) (by rfl) ?_
            refine WL.skip (d := 52) (by rfl) (by rfl) (by rfl) (by rfl) ?_
            refine WL.skip (d := 52) (by rfl) (by rfl) (by rfl) (by rfl) ?_
            refine WL.p (by rfl) (Yl.pickT (by rfl) (by rfl)) ?_
            refine WL.next ?_
            refine WC.condT (by rfl) ?_
            refine WC.seq ?_
            refine WL.p (by rfl) (Yl.assign (by rfl)) ?_
            refine WL.next ?_
            refine WC.ret ?_
            refine At.thenret ?_
            refine fin1' rfl (by rfl) ?_
            refine RetP.mk hs ?_
            try simp only [eqWith_map] at *
            simp_all [TPage.ext_iff, Bool.beq_eq_decide_eq]
          ·
            replace h5 := not_eq_false h5
            replace h5 := of_decide_eq_true h5
            refine WL.run (d := 38) (by rfl) (by rfl) ?_
            refine WL.p (by rfl) (Yl.fieldAddr fa52_11 (by rfl)) ?_
            refine WL.run (d := 38) (by rfl) (by rfl) ?_
            refine WL.p (by rfl) (Yl.loadB sca3 (by rfl) hs (by repeat (first | exact List.mem_cons_self | apply List.mem_cons_of_mem)) (by rfl)) ?_
            refine WL.run (d := 38) (by rfl) (by rfl) ?_
            refine WL.p (by rfl) (Yl.fieldAddr fa52_11 (by rfl)) ?_
            refine WL.run (d := 38) (by rfl) (by rfl) ?_
            refine WL.p (by rfl) (Yl.loadB sca3 (by rfl) hs (by repeat (first | exact List.mem_cons_self | apply List.mem_cons_of_mem)) (by rfl)) ?_
            refine WL.run (d := 38) (by rfl) (by rfl) ?_
            refine WL.p (by rfl) (Yl.nei (by rfl) (by rfl)) ?_
            refine WL.p (by rfl) (Yl.pickF (by rfl) (by rfl)) ?_
            refine WL.p (by rfl) (Yl.move (by rfl)) ?_
            refine WL.split (d := 45) (by rfl) (fun h6 => ?_) (fun h6 => ?_)
            ·
              replace h6 := not_eq_true h6
              replace h6 := of_decide_eq_false h6
              refine WL.skip (d := 45) (by rfl) (by rfl) (by rfl) (by rfl) ?_
              refine WL.skip (d := 45) (by rfl) (by rfl) (by rfl) (by rfl) ?_
              refine WL.skip (d := 45) (by rfl) (by rfl) (by rfl) (by rfl) ?_
              refine WL.skip (d := 45) (by rfl) (by rfl) (by rfl) (by rfl) ?_
              refine WL.skip (d := 45) (by rfl) (by rfl) (by rfl) (by rfl) ?_
              refine WL.p (by rfl) (Yl.pickT (by rfl) (by rfl)) ?_
              refine WL.p (by rfl) (Yl.move (by rfl)) ?_
              refine WL.skip (d := 52) (by rfl) (by rfl) (by rfl) (by rfl) ?_
              refine WL.skip (d := 52) (by rfl) (by rfl) (by rfl) (by rfl) ?_
              refine WL.skip (d := 52) (by rfl) (by rfl) (by rfl) (by rfl) ?_
              refine WL.skip (d := 52) (by rfl) (by rfl) (by rfl) (by rfl) ?_
              refine WL.skip (d := 52) (by rfl) (by rfl) (by rfl) (by rfl) ?_
              refine WL.p (by rfl) (Yl.pickT (by rfl) (by rfl)) ?_
              refine WL.next ?_
              refine WC.condT (by rfl) ?_
              refine WC.seq ?_
              refine WL.p (by rfl) (Yl.assign (by rfl)) ?_
              refine WL.next ?_
              refine WC.ret ?_
              refine At.thenret ?_
              refine fin1' rfl (by rfl) ?_
              refine RetP.mk hs ?_
              try simp only [eqWith_map] at *
              simp_all [TPage.ext_iff, Bool.beq_eq_decide_eq]
            ·
              replace h6 := not_eq_false h6
              replace h6 := of_decide_eq_true h6
              refine WL.run (d := 45) (by rfl) (by rfl) ?_
              refine WL.p (by rfl) (Yl.fieldAddr fa52_12 (by rfl)) ?_
              refine WL.run (d := 45) (by rfl) (by rfl) ?_
              refine WL.p (by rfl) (Yl.loadB sca3 (by rfl) hs (by repeat (first | exact List.mem_cons_self | apply List.mem_cons_of_mem)) (by rfl)) ?_
              refine WL.run (d := 45) (by rfl) (by rfl) ?_
              refine WL.p (by rfl) (Yl.fieldAddr fa52_12 (by rfl)) ?_
              refine WL.run (d := 45) (by rfl) (by rfl) ?_
              refine WL.p (by rfl) (Yl.loadB sca3 (by rfl) hs (by repeat (first | exact List.mem_cons_self | apply List.mem_cons_of_mem)) (by rfl)) ?_
              refine WL.run (d := 45) (by rfl) (by rfl) ?_
              refine WL.p (by rfl) (Yl.nei (by rfl) (by rfl)) ?_
              refine WL.p (by rfl) (Yl.pickF (by rfl) (by rfl)) ?_
              refine WL.p (by rfl) (Yl.move (by rfl)) ?_
              refine WL.split (d := 52) (by rfl) (fun h7 => ?_) (fun h7 => ?_)
              ·
                replace h7 := not_eq_true h7
                replace h7 := of_decide_eq_false h7
                refine WL.skip (d := 52) (by rfl) (by rfl) (by rfl) (by rfl) ?_
                refine WL.skip (d := 52) (by rfl) (by rfl) (by rfl) (by rfl) ?_
                refine WL.skip (d := 52) (by rfl) (by rfl) (by rfl) (by rfl) ?_
                refine WL.skip (d := 52) (by rfl) (by rfl) (by rfl) (by rfl) ?_
                refine WL.skip (d := 52) (by rfl) (by rfl) (by rfl) (by rfl) ?_
                refine WL.p (by rfl) (Yl.pickT (by rfl) (by rfl)) ?_
                refine WL.next ?_
                refine WC.condT (by rfl) ?_
                refine WC.seq ?_
                refine WL.p (by rfl) (Yl.assign (by rfl)) ?_
                refine WL.next ?_
                refine WC.ret ?_
                refine At.thenret ?_
                refine fin1' rfl (by rfl) ?_
                refine RetP.mk hs ?_
                try simp only [eqWith_map] at *
                simp_all [TPage.ext_iff, Bool.beq_eq_decide_eq]
              ·
                replace h7 := not_eq_false h7
                replace h7 := of_decide_eq_true h7
                refine WL.run (d := 52) (by rfl) (by rfl) ?_
                refine WL.p (by rfl) (Yl.fieldAddr fa52_15 (by rfl)) ?_
                refine WL.run (d := 52) (by rfl) (by rfl) ?_
                refine WL.p (by rfl) (Yl.loadB sca4 (by rfl) hs (by repeat (first | exact List.mem_cons_self | apply List.mem_cons_of_mem)) (by rfl)) ?_
                refine WL.run (d := 52) (by rfl) (by rfl) ?_
                refine WL.p (by rfl) (Yl.fieldAddr fa52_15 (by rfl)) ?_
                refine WL.run (d := 52) (by rfl) (by rfl) ?_
                refine WL.p (by rfl) (Yl.loadB sca4 (by rfl) hs (by repeat (first | exact List.mem_cons_self | apply List.mem_cons_of_mem)) (by rfl)) ?_
                refine WL.run (d := 52) (by rfl) (by rfl) ?_
                refine WL.p (by rfl) (Yl.neb bool4 (by rfl) (by rfl)) ?_
                refine WL.p (by rfl) (Yl.pickF (by rfl) (by rfl)) ?_
                refine WL.next ?_
                refine WC.condS (by rfl) (fun h8 => ?_) (fun h8 => ?_)
                ·
                  replace h8 := not_eq_true h8
                  replace h8 := beq_false h8
                  refine WC.seq ?_
                  refine WL.p (by rfl) (Yl.assign (by rfl)) ?_
                  refine WL.next ?_
                  refine WC.ret ?_
                  refine At.thenret ?_
                  refine fin1' rfl (by rfl) ?_
                  refine RetP.mk hs ?_
                  try simp only [eqWith_map] at *
                  simp_all [TPage.ext_iff, Bool.beq_eq_decide_eq]
                ·
                  replace h8 := not_eq_false h8
                  replace h8 := beq_true h8
                  refine WC.skipn ?_
                  refine WC.seq ?_
                  refine WL.p (by rfl) (Yl.fieldAddr fa52_1 (by rfl)) ?_
                  refine WL.p (by rfl) (Yl.loadAB agg42 (by rfl) hs (by repeat (first | exact List.mem_cons_self | apply List.mem_cons_of_mem)) (by rfl) (by rfl)) ?_
                  refine WL.p (by rfl) (Yl.fieldAddr fa52_1 (by rfl)) ?_
                  refine WL.p (by rfl) (Yl.loadAB agg42 (by rfl) hs (by repeat (first | exact List.mem_cons_self | apply List.mem_cons_of_mem)) (by rfl) (by rfl)) ?_
                  refine WL.callp hs (by rfl) (Yc.func (by rfl) fn18) (c_spec_EqualPolicies _ _ _ ⟨(Ph.old h_a.policy.set hs), (Ph.old h_a.policy.scripts hs), (Ph.old h_a.policy.styles hs), (Ph.old h_a.policy.images hs), (Ph.old h_a.policy.nonce hs)⟩ ⟨(Ph.old h_b.policy.set hs), (Ph.old h_b.policy.scripts hs), (Ph.old h_b.policy.styles hs), (Ph.old h_b.policy.images hs), (Ph.old h_b.policy.nonce hs)⟩) ?_
                  clear hs; intro w hs
                  refine WL.p (by rfl) (Yl.move (by rfl)) ?_
                  refine WL.split (d := 64) (by rfl) (fun h9 => ?_) (fun h9 => ?_)
                  ·
                    replace h9 := of_decide_eq_true h9
                    refine WL.run (d := 64) (by rfl) (by rfl) ?_
                    refine WL.p (by rfl) (Yl.fieldAddr fa52_5 (by rfl)) ?_
                    refine WL.run (d := 64) (by rfl) (by rfl) ?_
                    refine WL.p (by rfl) (Yl.loadAB agg47 (by rfl) hs (by repeat (first | exact List.mem_cons_self | apply List.mem_cons_of_mem)) (by rfl) (by rfl)) ?_
                    refine WL.run (d := 64) (by rfl) (by rfl) ?_
                    refine WL.p (by rfl) (Yl.fieldAddr fa52_5 (by rfl)) ?_
                    refine WL.run (d := 64) (by rfl) (by rfl) ?_
                    refine WL.p (by rfl) (Yl.loadAB agg47 (by rfl) hs (by repeat (first | exact List.mem_cons_self | apply List.mem_cons_of_mem)) (by rfl) (by rfl)) ?_
                    refine WL.run (d := 64) (by rfl) (by rfl) ?_
                    refine WL.callp hs (by rfl) (Yc.func (by rfl) fn19) (c_spec_EqualBuilders _ _ _ ⟨(Ph.old h_a.builder.nodes hs), (Ph.old h_a.builder.opn hs)⟩ ⟨(Ph.old h_b.builder.nodes hs), (Ph.old h_b.builder.opn hs)⟩) ?_
                    clear hs; intro w hs
                    refine WL.p (by rfl) (Yl.pickT (by rfl) (by rfl)) ?_
                    refine WL.p (by rfl) (Yl.move (by rfl)) ?_
                    refine WL.split (d := 71) (by rfl) (fun h10 => ?_) (fun h10 => ?_)
                    ·
                      replace h10 := of_decide_eq_true h10
                      refine WL.run (d := 71) (by rfl) (by rfl) ?_
                      refine WL.p (by rfl) (Yl.fieldAddr fa52_3 (by rfl)) ?_
                      refine WL.run (d := 71) (by rfl) (by rfl) ?_
                      refine WL.p (by rfl) (Yl.loadB sca44 (by rfl) hs (by repeat (first | exact List.mem_cons_self | apply List.mem_cons_of_mem)) (by rfl)) ?_
                      refine WL.run (d := 71) (by rfl) (by rfl) ?_
                      refine WL.p (by rfl) (Yl.fieldAddr fa52_3 (by rfl)) ?_
                      refine WL.run (d := 71) (by rfl) (by rfl) ?_
                      refine WL.p (by rfl) (Yl.loadB sca44 (by rfl) hs (by repeat (first | exact List.mem_cons_self | apply List.mem_cons_of_mem)) (by rfl)) ?_
                      refine WL.run (d := 71) (by rfl) (by rfl) ?_
                      refine WL.callp hs (by rfl) (Yc.func (by rfl) fn20) (c_spec_l15SameTokens _ _ _ (Ph.old h_a.queue hs) (Ph.old h_b.queue hs) (by first | assumption | omega | (simp only [lsz] at *; omega) | (simp only [lsz, strsz, TPolicy.size, TCache.size, TAddr.size, TRequest.size, TEntry.size, TResponse.size, TLine.size] at *; omega) | (simp only [lsz_map, TPage.size, TBuilder.size, TNode.size, TToken.size, TTokenizer.size, TServer.size, TFile.size, TNet.size, TCache.size, TSheet.size, strsz] at *; omega) | (simp only [lsz_map, TPage.size, TBuilder.size, TNode.size, TToken.size, TTokenizer.size, TServer.size, TFile.size, TNet.size, TCache.size, TSheet.size, strsz, lsz] at *; omega)) (by first | assumption | omega | (simp only [lsz] at *; omega) | (simp only [lsz, strsz, TPolicy.size, TCache.size, TAddr.size, TRequest.size, TEntry.size, TResponse.size, TLine.size] at *; omega) | (simp only [lsz_map, TPage.size, TBuilder.size, TNode.size, TToken.size, TTokenizer.size, TServer.size, TFile.size, TNet.size, TCache.size, TSheet.size, strsz] at *; omega) | (simp only [lsz_map, TPage.size, TBuilder.size, TNode.size, TToken.size, TTokenizer.size, TServer.size, TFile.size, TNet.size, TCache.size, TSheet.size, strsz, lsz] at *; omega))) ?_
                      clear hs; intro w hs
                      refine WL.p (by rfl) (Yl.pickT (by rfl) (by rfl)) ?_
                      refine WL.p (by rfl) (Yl.move (by rfl)) ?_
                      refine WL.split (d := 78) (by rfl) (fun h11 => ?_) (fun h11 => ?_)
                      ·
                        replace h11 := of_decide_eq_true h11
                        refine WL.run (d := 78) (by rfl) (by rfl) ?_
                        refine WL.p (by rfl) (Yl.loadAB agg52 (by rfl) hs (by repeat (first | exact List.mem_cons_self | apply List.mem_cons_of_mem)) (by rfl) (by rfl)) ?_
                        refine WL.run (d := 78) (by rfl) (by rfl) ?_
                        refine WL.p (by rfl) (Yl.loadAB agg52 (by rfl) hs (by repeat (first | exact List.mem_cons_self | apply List.mem_cons_of_mem)) (by rfl) (by rfl)) ?_
                        refine WL.run (d := 78) (by rfl) (by rfl) ?_
                        refine WL.callp hs (by rfl) (Yc.func (by rfl) fn21) (c_spec_l15Lists _ _ _ ⟨⟨(Ph.old h_a.addr.host hs), (Ph.old h_a.addr.path hs)⟩, ⟨(Ph.old h_a.policy.set hs), (Ph.old h_a.policy.scripts hs), (Ph.old h_a.policy.styles hs), (Ph.old h_a.policy.images hs), (Ph.old h_a.policy.nonce hs)⟩, ⟨(Ph.old h_a.tok.rest hs)⟩, (Ph.old h_a.queue hs), (Ph.old h_a.ended hs), ⟨(Ph.old h_a.builder.nodes hs), (Ph.old h_a.builder.opn hs)⟩, (Ph.old h_a.slots hs), (Ph.old h_a.mods hs), (Ph.old h_a.entries hs), (Ph.old h_a.block hs), (Ph.old h_a.inln hs), (Ph.old h_a.deferred hs), (Ph.old h_a.entered hs), (Ph.old h_a.ran hs), (Ph.old h_a.log hs), (Ph.old h_a.loaded hs)⟩ ⟨⟨(Ph.old h_b.addr.host hs), (Ph.old h_b.addr.path hs)⟩, ⟨(Ph.old h_b.policy.set hs), (Ph.old h_b.policy.scripts hs), (Ph.old h_b.policy.styles hs), (Ph.old h_b.policy.images hs), (Ph.old h_b.policy.nonce hs)⟩, ⟨(Ph.old h_b.tok.rest hs)⟩, (Ph.old h_b.queue hs), (Ph.old h_b.ended hs), ⟨(Ph.old h_b.builder.nodes hs), (Ph.old h_b.builder.opn hs)⟩, (Ph.old h_b.slots hs), (Ph.old h_b.mods hs), (Ph.old h_b.entries hs), (Ph.old h_b.block hs), (Ph.old h_b.inln hs), (Ph.old h_b.deferred hs), (Ph.old h_b.entered hs), (Ph.old h_b.ran hs), (Ph.old h_b.log hs), (Ph.old h_b.loaded hs)⟩) ?_
                        clear hs; intro w hs
                        refine WL.p (by rfl) (Yl.pickT (by rfl) (by rfl)) ?_
                        refine WL.p (by rfl) (Yl.move (by rfl)) ?_
                        refine WL.split (d := 83) (by rfl) (fun h12 => ?_) (fun h12 => ?_)
                        ·
                          replace h12 := of_decide_eq_true h12
                          refine WL.run (d := 83) (by rfl) (by rfl) ?_
                          refine WL.p (by rfl) (Yl.fieldAddr fa52_8 (by rfl)) ?_
                          refine WL.run (d := 83) (by rfl) (by rfl) ?_
                          refine WL.p (by rfl) (Yl.loadB sca50 (by rfl) hs (by repeat (first | exact List.mem_cons_self | apply List.mem_cons_of_mem)) (by rfl)) ?_
                          refine WL.run (d := 83) (by rfl) (by rfl) ?_
                          refine WL.p (by rfl) (Yl.fieldAddr fa52_8 (by rfl)) ?_
                          refine WL.run (d := 83) (by rfl) (by rfl) ?_
                          refine WL.p (by rfl) (Yl.loadB sca50 (by rfl) hs (by repeat (first | exact List.mem_cons_self | apply List.mem_cons_of_mem)) (by rfl)) ?_
                          refine WL.run (d := 83) (by rfl) (by rfl) ?_
                          refine WL.callp hs (by rfl) (Yc.func (by rfl) fn22) (c_spec_l15Addrs _ _ _ (Ph.old h_a.entries hs) (Ph.old h_b.entries hs)) ?_
                          clear hs; intro w hs
                          refine WL.p (by rfl) (Yl.pickT (by rfl) (by rfl)) ?_
                          refine WL.p (by rfl) (Yl.move (by rfl)) ?_
                          refine WL.split (d := 90) (by rfl) (fun h13 => ?_) (fun h13 => ?_)
                          ·
                            replace h13 := of_decide_eq_true h13
                            refine WL.run (d := 90) (by rfl) (by rfl) ?_
                            refine WL.p (by rfl) (Yl.fieldAddr fa52_13 (by rfl)) ?_
                            refine WL.run (d := 90) (by rfl) (by rfl) ?_
                            refine WL.p (by rfl) (Yl.loadB sca50 (by rfl) hs (by repeat (first | exact List.mem_cons_self | apply List.mem_cons_of_mem)) (by rfl)) ?_
                            refine WL.run (d := 90) (by rfl) (by rfl) ?_
                            refine WL.p (by rfl) (Yl.fieldAddr fa52_13 (by rfl)) ?_
                            refine WL.run (d := 90) (by rfl) (by rfl) ?_
                            refine WL.p (by rfl) (Yl.loadB sca50 (by rfl) hs (by repeat (first | exact List.mem_cons_self | apply List.mem_cons_of_mem)) (by rfl)) ?_
                            refine WL.run (d := 90) (by rfl) (by rfl) ?_
                            refine WL.callp hs (by rfl) (Yc.func (by rfl) fn22) (c_spec_l15Addrs _ _ _ (Ph.old h_a.ran hs) (Ph.old h_b.ran hs)) ?_
                            clear hs; intro w hs
                            refine WL.p (by rfl) (Yl.pickT (by rfl) (by rfl)) ?_
                            refine WL.p (by rfl) (Yl.move (by rfl)) ?_
                            refine WL.split (d := 97) (by rfl) (fun h14 => ?_) (fun h14 => ?_)
                            ·
                              replace h14 := of_decide_eq_true h14
                              refine WL.run (d := 97) (by rfl) (by rfl) ?_
                              refine WL.p (by rfl) (Yl.fieldAddr fa52_14 (by rfl)) ?_
                              refine WL.run (d := 97) (by rfl) (by rfl) ?_
                              refine WL.p (by rfl) (Yl.loadB sca24 (by rfl) hs (by repeat (first | exact List.mem_cons_self | apply List.mem_cons_of_mem)) (by rfl)) ?_
                              refine WL.run (d := 97) (by rfl) (by rfl) ?_
                              refine WL.p (by rfl) (Yl.fieldAddr fa52_14 (by rfl)) ?_
                              refine WL.run (d := 97) (by rfl) (by rfl) ?_
                              refine WL.p (by rfl) (Yl.loadB sca24 (by rfl) hs (by repeat (first | exact List.mem_cons_self | apply List.mem_cons_of_mem)) (by rfl)) ?_
                              refine WL.run (d := 97) (by rfl) (by rfl) ?_
                              refine WL.callp hs (by rfl) (Yc.func (by rfl) fn23) (c_spec_l15Texts _ _ _ (Ph.old h_a.log hs) (Ph.old h_b.log hs)) ?_
                              clear hs; intro w hs
                              refine WL.p (by rfl) (Yl.pickT (by rfl) (by rfl)) ?_
                              refine WL.p (by rfl) (Yl.assign (by rfl)) ?_
                              refine WL.next ?_
                              refine WC.ret ?_
                              refine fin1' rfl (by rfl) ?_
                              refine RetP.mk hs ?_
                              try simp only [eqWith_map] at *
                              simp_all [TPage.ext_iff, Bool.beq_eq_decide_eq]
                            ·
                              replace h14 := of_decide_eq_false h14
                              refine WL.skip (d := 97) (by rfl) (by rfl) (by rfl) (by rfl) ?_
                              refine WL.skip (d := 97) (by rfl) (by rfl) (by rfl) (by rfl) ?_
                              refine WL.skip (d := 97) (by rfl) (by rfl) (by rfl) (by rfl) ?_
                              refine WL.skip (d := 97) (by rfl) (by rfl) (by rfl) (by rfl) ?_
                              refine WL.skip (d := 97) (by rfl) (by rfl) (by rfl) (by rfl) ?_
                              refine WL.p (by rfl) (Yl.pickF (by rfl) (by rfl)) ?_
                              refine WL.p (by rfl) (Yl.assign (by rfl)) ?_
                              refine WL.next ?_
                              refine WC.ret ?_
                              refine fin1' rfl (by rfl) ?_
                              refine RetP.mk hs ?_
                              try simp only [eqWith_map] at *
                              simp_all [TPage.ext_iff, Bool.beq_eq_decide_eq]
                          ·
                            replace h13 := of_decide_eq_false h13
                            refine WL.skip (d := 90) (by rfl) (by rfl) (by rfl) (by rfl) ?_
                            refine WL.skip (d := 90) (by rfl) (by rfl) (by rfl) (by rfl) ?_
                            refine WL.skip (d := 90) (by rfl) (by rfl) (by rfl) (by rfl) ?_
                            refine WL.skip (d := 90) (by rfl) (by rfl) (by rfl) (by rfl) ?_
                            refine WL.skip (d := 90) (by rfl) (by rfl) (by rfl) (by rfl) ?_
                            refine WL.p (by rfl) (Yl.pickF (by rfl) (by rfl)) ?_
                            refine WL.p (by rfl) (Yl.move (by rfl)) ?_
                            refine WL.skip (d := 97) (by rfl) (by rfl) (by rfl) (by rfl) ?_
                            refine WL.skip (d := 97) (by rfl) (by rfl) (by rfl) (by rfl) ?_
                            refine WL.skip (d := 97) (by rfl) (by rfl) (by rfl) (by rfl) ?_
                            refine WL.skip (d := 97) (by rfl) (by rfl) (by rfl) (by rfl) ?_
                            refine WL.skip (d := 97) (by rfl) (by rfl) (by rfl) (by rfl) ?_
                            refine WL.p (by rfl) (Yl.pickF (by rfl) (by rfl)) ?_
                            refine WL.p (by rfl) (Yl.assign (by rfl)) ?_
                            refine WL.next ?_
                            refine WC.ret ?_
                            refine fin1' rfl (by rfl) ?_
                            refine RetP.mk hs ?_
                            try simp only [eqWith_map] at *
                            simp_all [TPage.ext_iff, Bool.beq_eq_decide_eq]
                        ·
                          replace h12 := of_decide_eq_false h12
                          refine WL.skip (d := 83) (by rfl) (by rfl) (by rfl) (by rfl) ?_
                          refine WL.skip (d := 83) (by rfl) (by rfl) (by rfl) (by rfl) ?_
                          refine WL.skip (d := 83) (by rfl) (by rfl) (by rfl) (by rfl) ?_
                          refine WL.skip (d := 83) (by rfl) (by rfl) (by rfl) (by rfl) ?_
                          refine WL.skip (d := 83) (by rfl) (by rfl) (by rfl) (by rfl) ?_
                          refine WL.p (by rfl) (Yl.pickF (by rfl) (by rfl)) ?_
                          refine WL.p (by rfl) (Yl.move (by rfl)) ?_
                          refine WL.skip (d := 90) (by rfl) (by rfl) (by rfl) (by rfl) ?_
                          refine WL.skip (d := 90) (by rfl) (by rfl) (by rfl) (by rfl) ?_
                          refine WL.skip (d := 90) (by rfl) (by rfl) (by rfl) (by rfl) ?_
                          refine WL.skip (d := 90) (by rfl) (by rfl) (by rfl) (by rfl) ?_
                          refine WL.skip (d := 90) (by rfl) (by rfl) (by rfl) (by rfl) ?_
                          refine WL.p (by rfl) (Yl.pickF (by rfl) (by rfl)) ?_
                          refine WL.p (by rfl) (Yl.move (by rfl)) ?_
                          refine WL.skip (d := 97) (by rfl) (by rfl) (by rfl) (by rfl) ?_
                          refine WL.skip (d := 97) (by rfl) (by rfl) (by rfl) (by rfl) ?_
                          refine WL.skip (d := 97) (by rfl) (by rfl) (by rfl) (by rfl) ?_
                          refine WL.skip (d := 97) (by rfl) (by rfl) (by rfl) (by rfl) ?_
                          refine WL.skip (d := 97) (by rfl) (by rfl) (by rfl) (by rfl) ?_
                          refine WL.p (by rfl) (Yl.pickF (by rfl) (by rfl)) ?_
                          refine WL.p (by rfl) (Yl.assign (by rfl)) ?_
                          refine WL.next ?_
                          refine WC.ret ?_
                          refine fin1' rfl (by rfl) ?_
                          refine RetP.mk hs ?_
                          try simp only [eqWith_map] at *
                          simp_all [TPage.ext_iff, Bool.beq_eq_decide_eq]
                      ·
                        replace h11 := of_decide_eq_false h11
                        refine WL.skip (d := 78) (by rfl) (by rfl) (by rfl) (by rfl) ?_
                        refine WL.skip (d := 78) (by rfl) (by rfl) (by rfl) (by rfl) ?_
                        refine WL.skip (d := 78) (by rfl) (by rfl) (by rfl) (by rfl) ?_
                        refine WL.p (by rfl) (Yl.pickF (by rfl) (by rfl)) ?_
                        refine WL.p (by rfl) (Yl.move (by rfl)) ?_
                        refine WL.skip (d := 83) (by rfl) (by rfl) (by rfl) (by rfl) ?_
                        refine WL.skip (d := 83) (by rfl) (by rfl) (by rfl) (by rfl) ?_
                        refine WL.skip (d := 83) (by rfl) (by rfl) (by rfl) (by rfl) ?_
                        refine WL.skip (d := 83) (by rfl) (by rfl) (by rfl) (by rfl) ?_
                        refine WL.skip (d := 83) (by rfl) (by rfl) (by rfl) (by rfl) ?_
                        refine WL.p (by rfl) (Yl.pickF (by rfl) (by rfl)) ?_
                        refine WL.p (by rfl) (Yl.move (by rfl)) ?_
                        refine WL.skip (d := 90) (by rfl) (by rfl) (by rfl) (by rfl) ?_
                        refine WL.skip (d := 90) (by rfl) (by rfl) (by rfl) (by rfl) ?_
                        refine WL.skip (d := 90) (by rfl) (by rfl) (by rfl) (by rfl) ?_
                        refine WL.skip (d := 90) (by rfl) (by rfl) (by rfl) (by rfl) ?_
                        refine WL.skip (d := 90) (by rfl) (by rfl) (by rfl) (by rfl) ?_
                        refine WL.p (by rfl) (Yl.pickF (by rfl) (by rfl)) ?_
                        refine WL.p (by rfl) (Yl.move (by rfl)) ?_
                        refine WL.skip (d := 97) (by rfl) (by rfl) (by rfl) (by rfl) ?_
                        refine WL.skip (d := 97) (by rfl) (by rfl) (by rfl) (by rfl) ?_
                        refine WL.skip (d := 97) (by rfl) (by rfl) (by rfl) (by rfl) ?_
                        refine WL.skip (d := 97) (by rfl) (by rfl) (by rfl) (by rfl) ?_
                        refine WL.skip (d := 97) (by rfl) (by rfl) (by rfl) (by rfl) ?_
                        refine WL.p (by rfl) (Yl.pickF (by rfl) (by rfl)) ?_
                        refine WL.p (by rfl) (Yl.assign (by rfl)) ?_
                        refine WL.next ?_
                        refine WC.ret ?_
                        refine fin1' rfl (by rfl) ?_
                        refine RetP.mk hs ?_
                        try simp only [eqWith_map] at *
                        simp_all [TPage.ext_iff, Bool.beq_eq_decide_eq]
                    ·
                      replace h10 := of_decide_eq_false h10
                      refine WL.skip (d := 71) (by rfl) (by rfl) (by rfl) (by rfl) ?_
                      refine WL.skip (d := 71) (by rfl) (by rfl) (by rfl) (by rfl) ?_
                      refine WL.skip (d := 71) (by rfl) (by rfl) (by rfl) (by rfl) ?_
                      refine WL.skip (d := 71) (by rfl) (by rfl) (by rfl) (by rfl) ?_
                      refine WL.skip (d := 71) (by rfl) (by rfl) (by rfl) (by rfl) ?_
                      refine WL.p (by rfl) (Yl.pickF (by rfl) (by rfl)) ?_
                      refine WL.p (by rfl) (Yl.move (by rfl)) ?_
                      refine WL.skip (d := 78) (by rfl) (by rfl) (by rfl) (by rfl) ?_
                      refine WL.skip (d := 78) (by rfl) (by rfl) (by rfl) (by rfl) ?_
                      refine WL.skip (d := 78) (by rfl) (by rfl) (by rfl) (by rfl) ?_
                      refine WL.p (by rfl) (Yl.pickF (by rfl) (by rfl)) ?_
                      refine WL.p (by rfl) (Yl.move (by rfl)) ?_
                      refine WL.skip (d := 83) (by rfl) (by rfl) (by rfl) (by rfl) ?_
                      refine WL.skip (d := 83) (by rfl) (by rfl) (by rfl) (by rfl) ?_
                      refine WL.skip (d := 83) (by rfl) (by rfl) (by rfl) (by rfl) ?_
                      refine WL.skip (d := 83) (by rfl) (by rfl) (by rfl) (by rfl) ?_
                      refine WL.skip (d := 83) (by rfl) (by rfl) (by rfl) (by rfl) ?_
                      refine WL.p (by rfl) (Yl.pickF (by rfl) (by rfl)) ?_
                      refine WL.p (by rfl) (Yl.move (by rfl)) ?_
                      refine WL.skip (d := 90) (by rfl) (by rfl) (by rfl) (by rfl) ?_
                      refine WL.skip (d := 90) (by rfl) (by rfl) (by rfl) (by rfl) ?_
                      refine WL.skip (d := 90) (by rfl) (by rfl) (by rfl) (by rfl) ?_
                      refine WL.skip (d := 90) (by rfl) (by rfl) (by rfl) (by rfl) ?_
                      refine WL.skip (d := 90) (by rfl) (by rfl) (by rfl) (by rfl) ?_
                      refine WL.p (by rfl) (Yl.pickF (by rfl) (by rfl)) ?_
                      refine WL.p (by rfl) (Yl.move (by rfl)) ?_
                      refine WL.skip (d := 97) (by rfl) (by rfl) (by rfl) (by rfl) ?_
                      refine WL.skip (d := 97) (by rfl) (by rfl) (by rfl) (by rfl) ?_
                      refine WL.skip (d := 97) (by rfl) (by rfl) (by rfl) (by rfl) ?_
                      refine WL.skip (d := 97) (by rfl) (by rfl) (by rfl) (by rfl) ?_
                      refine WL.skip (d := 97) (by rfl) (by rfl) (by rfl) (by rfl) ?_
                      refine WL.p (by rfl) (Yl.pickF (by rfl) (by rfl)) ?_
                      refine WL.p (by rfl) (Yl.assign (by rfl)) ?_
                      refine WL.next ?_
                      refine WC.ret ?_
                      refine fin1' rfl (by rfl) ?_
                      refine RetP.mk hs ?_
                      try simp only [eqWith_map] at *
                      simp_all [TPage.ext_iff, Bool.beq_eq_decide_eq]
                  ·
                    replace h9 := of_decide_eq_false h9
                    refine WL.skip (d := 64) (by rfl) (by rfl) (by rfl) (by rfl) ?_
                    refine WL.skip (d := 64) (by rfl) (by rfl) (by rfl) (by rfl) ?_
                    refine WL.skip (d := 64) (by rfl) (by rfl) (by rfl) (by rfl) ?_
                    refine WL.skip (d := 64) (by rfl) (by rfl) (by rfl) (by rfl) ?_
                    refine WL.skip (d := 64) (by rfl) (by rfl) (by rfl) (by rfl) ?_
                    refine WL.p (by rfl) (Yl.pickF (by rfl) (by rfl)) ?_
                    refine WL.p (by rfl) (Yl.move (by rfl)) ?_
                    refine WL.skip (d := 71) (by rfl) (by rfl) (by rfl) (by rfl) ?_
                    refine WL.skip (d := 71) (by rfl) (by rfl) (by rfl) (by rfl) ?_
                    refine WL.skip (d := 71) (by rfl) (by rfl) (by rfl) (by rfl) ?_
                    refine WL.skip (d := 71) (by rfl) (by rfl) (by rfl) (by rfl) ?_
                    refine WL.skip (d := 71) (by rfl) (by rfl) (by rfl) (by rfl) ?_
                    refine WL.p (by rfl) (Yl.pickF (by rfl) (by rfl)) ?_
                    refine WL.p (by rfl) (Yl.move (by rfl)) ?_
                    refine WL.skip (d := 78) (by rfl) (by rfl) (by rfl) (by rfl) ?_
                    refine WL.skip (d := 78) (by rfl) (by rfl) (by rfl) (by rfl) ?_
                    refine WL.skip (d := 78) (by rfl) (by rfl) (by rfl) (by rfl) ?_
                    refine WL.p (by rfl) (Yl.pickF (by rfl) (by rfl)) ?_
                    refine WL.p (by rfl) (Yl.move (by rfl)) ?_
                    refine WL.skip (d := 83) (by rfl) (by rfl) (by rfl) (by rfl) ?_
                    refine WL.skip (d := 83) (by rfl) (by rfl) (by rfl) (by rfl) ?_
                    refine WL.skip (d := 83) (by rfl) (by rfl) (by rfl) (by rfl) ?_
                    refine WL.skip (d := 83) (by rfl) (by rfl) (by rfl) (by rfl) ?_
                    refine WL.skip (d := 83) (by rfl) (by rfl) (by rfl) (by rfl) ?_
                    refine WL.p (by rfl) (Yl.pickF (by rfl) (by rfl)) ?_
                    refine WL.p (by rfl) (Yl.move (by rfl)) ?_
                    refine WL.skip (d := 90) (by rfl) (by rfl) (by rfl) (by rfl) ?_
                    refine WL.skip (d := 90) (by rfl) (by rfl) (by rfl) (by rfl) ?_
                    refine WL.skip (d := 90) (by rfl) (by rfl) (by rfl) (by rfl) ?_
                    refine WL.skip (d := 90) (by rfl) (by rfl) (by rfl) (by rfl) ?_
                    refine WL.skip (d := 90) (by rfl) (by rfl) (by rfl) (by rfl) ?_
                    refine WL.p (by rfl) (Yl.pickF (by rfl) (by rfl)) ?_
                    refine WL.p (by rfl) (Yl.move (by rfl)) ?_
                    refine WL.skip (d := 97) (by rfl) (by rfl) (by rfl) (by rfl) ?_
                    refine WL.skip (d := 97) (by rfl) (by rfl) (by rfl) (by rfl) ?_
                    refine WL.skip (d := 97) (by rfl) (by rfl) (by rfl) (by rfl) ?_
                    refine WL.skip (d := 97) (by rfl) (by rfl) (by rfl) (by rfl) ?_
                    refine WL.skip (d := 97) (by rfl) (by rfl) (by rfl) (by rfl) ?_
                    refine WL.p (by rfl) (Yl.pickF (by rfl) (by rfl)) ?_
                    refine WL.p (by rfl) (Yl.assign (by rfl)) ?_
                    refine WL.next ?_
                    refine WC.ret ?_
                    refine fin1' rfl (by rfl) ?_
                    refine RetP.mk hs ?_
                    try simp only [eqWith_map] at *
                    simp_all [TPage.ext_iff, Bool.beq_eq_decide_eq]

theorem c_slices_Equal___impl_Attr_impl_Attr_ (s1 : (Sl TAttr)) (s2 : (Sl TAttr)) (w : World) (h_s1 : Ph.ok w s1) (h_s2 : Ph.ok w s2)  : Calls Try.prog 64 [Sl.v s1, Sl.v s2].toArray w (RetP w (Bo (decide (s1.l = s2.l)))) := by
  have hw := h_s1.lt
  refine enterN 26 Try.func64 rfl rfl rfl ?_
  have hs := Sat.start w
  refine WC.seq ?_
  refine WL.p (by rfl) (Yl.assign (by rfl)) ?_
  refine WL.next ?_
  refine WC.seq' ?_
  refine WC.seq ?_
  refine WL.p (by rfl) (Yl.move (by rfl)) ?_
  refine WL.p (by rfl) (Yl.len_sl slu79 (by rfl)) ?_
  refine WL.p (by rfl) (Yl.move (by rfl)) ?_
  refine WL.p (by rfl) (Yl.len_sl slu79 (by rfl)) ?_
  refine WL.p (by rfl) (Yl.nei (by rfl) (by rfl)) ?_
  refine WL.next ?_
  refine WC.condS (by rfl) (fun h1 => ?_) (fun h1 => ?_)
  ·
    replace h1 := not_eq_true h1
    replace h1 := of_decide_eq_false h1
    refine WC.seq ?_
    refine WL.p (by rfl) (Yl.assign (by rfl)) ?_
    refine WL.next ?_
    refine WC.ret ?_
    refine At.thenret ?_
    refine fin1' rfl (by rfl) ?_
    refine RetP.mk hs ?_
    have hne : ¬ s1.l = s2.l := by
      intro h
      have h2 := congrArg List.length h
      try simp at h2
      omega
    simp only [hne, decide_false]
  ·
    replace h1 := not_eq_false h1
    replace h1 := of_decide_eq_true h1
    refine WC.skipn ?_
    refine WC.seq' ?_
    refine WC.seq ?_
    refine WL.p (by rfl) (Yl.move (by rfl)) ?_
    refine WL.p (by rfl) (Yl.len_sl slu79 (by rfl)) ?_
    refine WL.p (by rfl) (Yl.move (by rfl)) ?_
    refine WL.next ?_
    refine WC.block ?_
    refine WC.loopC (ι := Nat) (fun k => s1.l.length - k) (fun k => [(13, I (k : Int))]) (fun _ => []) (fun k => decide (s1.l = s2.l) = decide (s1.l.drop k = s2.l.drop k)) [(0, _), (1, _), (6, _), (7, _), (8, _), (9, _), (10, _), (11, _), (12, _)] 0 (hs) ⟨by rfl, by rfl, by rfl, by rfl, by rfl, by rfl, by rfl, by rfl, by rfl, trivial⟩ ⟨by rfl, trivial⟩ ?_ ?_
    ·
      simp
    clear hs; rintro k w hJ hs
    simp only [List.nil_append] at hs
    refine WC.seq ?_
    refine WL.p (by rfl) (Yl.lss (by rfl) (by rfl)) ?_
    refine WL.next ?_
    refine WC.seq' ?_
    refine WC.condS (by rfl) (fun h2 => ?_) (fun h2 => ?_)
    ·
      replace h2 := of_decide_eq_true h2
      obtain ⟨d, hd⟩ := exists_get (l := s1.l) (k := k) (by omega)
      obtain ⟨d2, hd2⟩ := exists_get (l := s2.l) (k := k) (by omega)
      rw [drop_cons hd, drop_cons hd2] at hJ
      refine WC.skipn ?_
      refine WC.seq' ?_
      refine WC.block ?_
      refine WC.seq ?_
      refine WL.p (by rfl) (Yl.move (by rfl)) ?_
      refine WL.p (by rfl) (Yl.assign (by rfl)) ?_
      refine WL.next ?_
      refine WC.quietn mixed (by kernel_rfl) hs ?_
      refine WQ.p (by rfl) (fun w hs => Yl.move (by rfl)) ?_
      refine WQ.p (by rfl) (fun w hs => Yl.move (by rfl)) ?_
      refine WQ.p (by rfl) (fun w hs => Yl.indexAddr slt79 (by rfl) (by rfl) (Ph.old h_s1 hs) (by rfl) (hd)) ?_
      refine WQ.p (by rfl) (fun w hs => Yl.loadA agg109 (by rfl) (Sl.Ok.at_ (Ph.old h_s1 hs) (by assumption)).2 (by rfl)) ?_
      refine WQ.p (by rfl) (fun w hs => Yl.move (by rfl)) ?_
      refine WQ.p (by rfl) (fun w hs => Yl.move (by rfl)) ?_
      refine WQ.p (by rfl) (fun w hs => Yl.indexAddr slt79 (by rfl) (by rfl) (Ph.old h_s2 hs) (by rfl) (hd2)) ?_
      refine WQ.p (by rfl) (fun w hs => Yl.loadA agg109 (by rfl) (Sl.Ok.at_ (Ph.old h_s2 hs) (by assumption)).2 (by rfl)) ?_
      refine WQ.p (by rfl) (fun w hs => Yl.net eqt109 (by rfl) (by rfl)) ?_
      refine WQ.next ?_
      clear hs; intro w hs
      refine WC.condS (by rfl) (fun h3 => ?_) (fun h3 => ?_)
      ·
        replace h3 := not_eq_true h3
        replace h3 := of_decide_eq_false h3
        refine WC.seq ?_
        refine WL.p (by rfl) (Yl.assign (by rfl)) ?_
        refine WL.next ?_
        refine WC.ret ?_
        refine At.blockret ?_
        refine At.thenret ?_
        refine At.thenret ?_
        refine At.blockret ?_
        refine At.thenret ?_
        refine fin1' rfl (by rfl) ?_
        refine RetP.mk hs ?_
        rw [hJ]; simp_all
      ·
        replace h3 := not_eq_false h3
        replace h3 := of_decide_eq_true h3
        refine WC.skip ?_
        refine At.blocknormal ?_
        refine At.then_ ?_
        refine WC.region ?_
        refine WL.p (by rfl) (Yl.add (by rfl) (by rfl) (by omega)) ?_
        refine WL.p (by rfl) (Yl.move (by rfl)) ?_
        refine WL.nil ?_
        refine At.roundC (k + 1) (hs.only (by repeat (first | exact Sel.nil | (apply Sel.cons; (repeat (first | exact Ext.here | apply Ext.there)))))) ⟨by rfl, by rfl, by rfl, by rfl, by rfl, by rfl, by rfl, by rfl, by rfl, trivial⟩ ⟨by rfl, trivial⟩ ?_ ?_
        ·
          omega
        ·
          rw [hJ]; simp_all
    ·
      replace h2 := of_decide_eq_false h2
      rw [drop_out (l := s1.l) (by omega), drop_out (l := s2.l) (by omega)] at hJ
      refine WC.exit ?_
      refine At.thenexit ?_
      refine At.thenexit ?_
      refine At.blockexit ?_
      refine At.then_ ?_
      refine WC.seq ?_
      refine WL.p (by rfl) (Yl.assign (by rfl)) ?_
      refine WL.next ?_
      refine WC.ret ?_
      refine fin1' rfl (by rfl) ?_
      refine RetP.mk hs ?_
      rw [hJ]; simp_all

theorem c_impl_equalTokens (a : PToken) (b : PToken) (w : World) (h_a : Ph.ok w a) (h_b : Ph.ok w b)  : Calls Try.prog 35 [.agg #[I a.kind, S a.name, Sl.v a.attrs, S a.text], .agg #[I b.kind, S b.name, Sl.v b.attrs, S b.text]].toArray w (RetP w (Bo (decide (a.lg = b.lg)))) := by
  refine enterN 31 Try.func35 rfl rfl rfl ?_
  have hs := Sat.start w
  refine WC.seq ?_
  refine WL.r (by rfl) (Yr.box hs (by rfl) (by rfl)) ?_
  clear hs; rintro _ w ⟨b1, rfl, hb, hs⟩; clear hb
  refine WL.r (by rfl) (Yr.box hs (by rfl) (by rfl)) ?_
  clear hs; rintro _ w ⟨b2, rfl, hb, hs⟩; clear hb
  refine WL.p (by rfl) (Yl.assign (by rfl)) ?_
  refine WL.next ?_
  refine WC.seq ?_
  refine WL.p (by rfl) (Yl.fieldAddr fa81_0 (by rfl)) ?_
  refine WL.p (by rfl) (Yl.loadB sca3 (by rfl) hs (by repeat (first | exact List.mem_cons_self | apply List.mem_cons_of_mem)) (by rfl)) ?_
  refine WL.p (by rfl) (Yl.fieldAddr fa81_0 (by rfl)) ?_
  refine WL.p (by rfl) (Yl.loadB sca3 (by rfl) hs (by repeat (first | exact List.mem_cons_self | apply List.mem_cons_of_mem)) (by rfl)) ?_
  refine WL.p (by rfl) (Yl.eqi (by rfl) (by rfl)) ?_
  refine WL.p (by rfl) (Yl.move (by rfl)) ?_
  refine WL.split (d := 10) (by rfl) (fun h1 => ?_) (fun h1 => ?_)
  ·
    replace h1 := of_decide_eq_true h1
    refine WL.run (d := 10) (by rfl) (by rfl) ?_
    refine WL.p (by rfl) (Yl.fieldAddr fa81_1 (by rfl)) ?_
    refine WL.run (d := 10) (by rfl) (by rfl) ?_
    refine WL.p (by rfl) (Yl.loadB sca9 (by rfl) hs (by repeat (first | exact List.mem_cons_self | apply List.mem_cons_of_mem)) (by rfl)) ?_
    refine WL.run (d := 10) (by rfl) (by rfl) ?_
    refine WL.p (by rfl) (Yl.fieldAddr fa81_1 (by rfl)) ?_
    refine WL.run (d := 10) (by rfl) (by rfl) ?_
    refine WL.p (by rfl) (Yl.loadB sca9 (by rfl) hs (by repeat (first | exact List.mem_cons_self | apply List.mem_cons_of_mem)) (by rfl)) ?_
    refine WL.run (d := 10) (by rfl) (by rfl) ?_
    refine WL.p (by rfl) (Yl.eqs (by rfl) (by rfl)) ?_
    refine WL.p (by rfl) (Yl.pickT (by rfl) (by rfl)) ?_
    refine WL.p (by rfl) (Yl.move (by rfl)) ?_
    refine WL.split (d := 17) (by rfl) (fun h2 => ?_) (fun h2 => ?_)
    ·
      replace h2 := of_decide_eq_true h2
      refine WL.run (d := 17) (by rfl) (by rfl) ?_
      refine WL.p (by rfl) (Yl.fieldAddr fa81_2 (by rfl)) ?_
      refine WL.run (d := 17) (by rfl) (by rfl) ?_
      refine WL.p (by rfl) (Yl.loadB sca79 (by rfl) hs (by repeat (first | exact List.mem_cons_self | apply List.mem_cons_of_mem)) (by rfl)) ?_
      refine WL.run (d := 17) (by rfl) (by rfl) ?_
      refine WL.p (by rfl) (Yl.fieldAddr fa81_2 (by rfl)) ?_
      refine WL.run (d := 17) (by rfl) (by rfl) ?_
      refine WL.p (by rfl) (Yl.loadB sca79 (by rfl) hs (by repeat (first | exact List.mem_cons_self | apply List.mem_cons_of_mem)) (by rfl)) ?_
      refine WL.run (d := 17) (by rfl) (by rfl) ?_
      refine WL.callp hs (by rfl) (Yc.func (by rfl) fn64) (c_slices_Equal___impl_Attr_impl_Attr_ _ _ _ (Ph.old h_a.attrs hs) (Ph.old h_b.attrs hs)) ?_
      clear hs; intro w hs
      refine WL.p (by rfl) (Yl.pickT (by rfl) (by rfl)) ?_
      refine WL.p (by rfl) (Yl.move (by rfl)) ?_
      refine WL.split (d := 24) (by rfl) (fun h3 => ?_) (fun h3 => ?_)
      ·
        replace h3 := of_decide_eq_true h3
        refine WL.run (d := 24) (by rfl) (by rfl) ?_
        refine WL.p (by rfl) (Yl.fieldAddr fa81_3 (by rfl)) ?_
        refine WL.run (d := 24) (by rfl) (by rfl) ?_
        refine WL.p (by rfl) (Yl.loadB sca9 (by rfl) hs (by repeat (first | exact List.mem_cons_self | apply List.mem_cons_of_mem)) (by rfl)) ?_
        refine WL.run (d := 24) (by rfl) (by rfl) ?_
        refine WL.p (by rfl) (Yl.fieldAddr fa81_3 (by rfl)) ?_
        refine WL.run (d := 24) (by rfl) (by rfl) ?_
        refine WL.p (by rfl) (Yl.loadB sca9 (by rfl) hs (by repeat (first | exact List.mem_cons_self | apply List.mem_cons_of_mem)) (by rfl)) ?_
        refine WL.run (d := 24) (by rfl) (by rfl) ?_
        refine WL.p (by rfl) (Yl.eqs (by rfl) (by rfl)) ?_
        refine WL.p (by rfl) (Yl.pickT (by rfl) (by rfl)) ?_
        refine WL.p (by rfl) (Yl.assign (by rfl)) ?_
        refine WL.next ?_
        refine WC.ret ?_
        refine fin1' rfl (by rfl) ?_
        refine RetP.mk hs ?_
        simp_all [TToken.ext_iff]
      ·
        replace h3 := of_decide_eq_false h3
        refine WL.skip (d := 24) (by rfl) (by rfl) (by rfl) (by rfl) ?_
        refine WL.skip (d := 24) (by rfl) (by rfl) (by rfl) (by rfl) ?_
        refine WL.skip (d := 24) (by rfl) (by rfl) (by rfl) (by rfl) ?_
        refine WL.skip (d := 24) (by rfl) (by rfl) (by rfl) (by rfl) ?_
        refine WL.skip (d := 24) (by rfl) (by rfl) (by rfl) (by rfl) ?_
        refine WL.p (by rfl) (Yl.pickF (by rfl) (by rfl)) ?_
        refine WL.p (by rfl) (Yl.assign (by rfl)) ?_
        refine WL.next ?_
        refine WC.ret ?_
        refine fin1' rfl (by rfl) ?_
        refine RetP.mk hs ?_
        simp_all [TToken.ext_iff]
    ·
      replace h2 := of_decide_eq_false h2
      refine WL.skip (d := 17) (by rfl) (by rfl) (by rfl) (by rfl) ?_
      refine WL.skip (d := 17) (by rfl) (by rfl) (by rfl) (by rfl) ?_
      refine WL.skip (d := 17) (by rfl) (by rfl) (by rfl) (by rfl) ?_
      refine WL.skip (d := 17) (by rfl) (by rfl) (by rfl) (by rfl) ?_
      refine WL.skip (d := 17) (by rfl) (by rfl) (by rfl) (by rfl) ?_
      refine WL.p (by rfl) (Yl.pickF (by rfl) (by rfl)) ?_
      refine WL.p (by rfl) (Yl.move (by rfl)) ?_
      refine WL.skip (d := 24) (by rfl) (by rfl) (by rfl) (by rfl) ?_
      refine WL.skip (d := 24) (by rfl) (by rfl) (by rfl) (by rfl) ?_
      refine WL.skip (d := 24) (by rfl) (by rfl) (by rfl) (by rfl) ?_
      refine WL.skip (d := 24) (by rfl) (by rfl) (by rfl) (by rfl) ?_
      refine WL.skip (d := 24) (by rfl) (by rfl) (by rfl) (by rfl) ?_
      refine WL.p (by rfl) (Yl.pickF (by rfl) (by rfl)) ?_
      refine WL.p (by rfl) (Yl.assign (by rfl)) ?_
      refine WL.next ?_
      refine WC.ret ?_
      refine fin1' rfl (by rfl) ?_
      refine RetP.mk hs ?_
      simp_all [TToken.ext_iff]
  ·
    replace h1 := of_decide_eq_false h1
    refine WL.skip (d := 10) (by rfl) (by rfl) (by rfl) (by rfl) ?_
    refine WL.skip (d := 10) (by rfl) (by rfl) (by rfl) (by rfl) ?_
    refine WL.skip (d := 10) (by rfl) (by rfl) (by rfl) (by rfl) ?_
    refine WL.skip (d := 10) (by rfl) (by rfl) (by rfl) (by rfl) ?_
    refine WL.skip (d := 10) (by rfl) (by rfl) (by rfl) (by rfl) ?_
    refine WL.p (by rfl) (Yl.pickF (by rfl) (by rfl)) ?_
    refine WL.p (by rfl) (Yl.move (by rfl)) ?_
    refine WL.skip (d := 17) (by rfl) (by rfl) (by rfl) (by rfl) ?_
    refine WL.skip (d := 17) (by rfl) (by rfl) (by rfl) (by rfl) ?_
    refine WL.skip (d := 17) (by rfl) (by rfl) (by rfl) (by rfl) ?_
    refine WL.skip (d := 17) (by rfl) (by rfl) (by rfl) (by rfl) ?_
    refine WL.skip (d := 17) (by rfl) (by rfl) (by rfl) (by rfl) ?_
    refine WL.p (by rfl) (Yl.pickF (by rfl) (by rfl)) ?_
    refine WL.p (by rfl) (Yl.move (by rfl)) ?_
    refine WL.skip (d := 24) (by rfl) (by rfl) (by rfl) (by rfl) ?_
    refine WL.skip (d := 24) (by rfl) (by rfl) (by rfl) (by rfl) ?_
    refine WL.skip (d := 24) (by rfl) (by rfl) (by rfl) (by rfl) ?_
    refine WL.skip (d := 24) (by rfl) (by rfl) (by rfl) (by rfl) ?_
    refine WL.skip (d := 24) (by rfl) (by rfl) (by rfl) (by rfl) ?_
    refine WL.p (by rfl) (Yl.pickF (by rfl) (by rfl)) ?_
    refine WL.p (by rfl) (Yl.assign (by rfl)) ?_
    refine WL.next ?_
    refine WC.ret ?_
    refine fin1' rfl (by rfl) ?_
    refine RetP.mk hs ?_
    simp_all [TToken.ext_iff]

theorem c_impl_equalNodes (a : PNode) (b : PNode) (w : World) (h_a : Ph.ok w a) (h_b : Ph.ok w b)  : Calls Try.prog 66 [.agg #[S a.name, S a.text, I a.parent, Sl.v a.attrs], .agg #[S b.name, S b.text, I b.parent, Sl.v b.attrs]].toArray w (RetP w (Bo (decide (a.lg = b.lg)))) := by
  refine enterN 31 Try.func66 rfl rfl rfl ?_
  have hs := Sat.start w
  refine WC.seq ?_
  refine WL.r (by rfl) (Yr.box hs (by rfl) (by rfl)) ?_
  clear hs; rintro _ w ⟨b1, rfl, hb, hs⟩; clear hb
  refine WL.r (by rfl) (Yr.box hs (by rfl) (by rfl)) ?_
  clear hs; rintro _ w ⟨b2, rfl, hb, hs⟩; clear hb
  refine WL.p (by rfl) (Yl.assign (by rfl)) ?_
  refine WL.next ?_
  refine WC.seq ?_
  refine WL.p (by rfl) (Yl.fieldAddr fa106_0 (by rfl)) ?_
  refine WL.p (by rfl) (Yl.loadB sca9 (by rfl) hs (by repeat (first | exact List.mem_cons_self | apply List.mem_cons_of_mem)) (by rfl)) ?_
  refine WL.p (by rfl) (Yl.fieldAddr fa106_0 (by rfl)) ?_
  refine WL.p (by rfl) (Yl.loadB sca9 (by rfl) hs (by repeat (first | exact List.mem_cons_self | apply List.mem_cons_of_mem)) (by rfl)) ?_
  refine WL.p (by rfl) (Yl.eqs (by rfl) (by rfl)) ?_
  refine WL.p (by rfl) (Yl.move (by rfl)) ?_
  refine WL.split (d := 10) (by rfl) (fun h1 => ?_) (fun h1 => ?_)
  ·
    replace h1 := of_decide_eq_true h1
    refine WL.run (d := 10) (by rfl) (by rfl) ?_
    refine WL.p (by rfl) (Yl.fieldAddr fa106_1 (by rfl)) ?_
    refine WL.run (d := 10) (by rfl) (by rfl) ?_
    refine WL.p (by rfl) (Yl.loadB sca9 (by rfl) hs (by repeat (first | exact List.mem_cons_self | apply List.mem_cons_of_mem)) (by rfl)) ?_
    refine WL.run (d := 10) (by rfl) (by rfl) ?_
    refine WL.p (by rfl) (Yl.fieldAddr fa106_1 (by rfl)) ?_
    refine WL.run (d := 10) (by rfl) (by rfl) ?_
    refine WL.p (by rfl) (Yl.loadB sca9 (by rfl) hs (by repeat (first | exact List.mem_cons_self | apply List.mem_cons_of_mem)) (by rfl)) ?_
    refine WL.run (d := 10) (by rfl) (by rfl) ?_
    refine WL.p (by rfl) (Yl.eqs (by rfl) (by rfl)) ?_
    refine WL.p (by rfl) (Yl.pickT (by rfl) (by rfl)) ?_
    refine WL.p (by rfl) (Yl.move (by rfl)) ?_
    refine WL.split (d := 17) (by rfl) (fun h2 => ?_) (fun h2 => ?_)
    ·
      replace h2 := of_decide_eq_true h2
      refine WL.run (d := 17) (by rfl) (by rfl) ?_
      refine WL.p (by rfl) (Yl.fieldAddr fa106_2 (by rfl)) ?_
      refine WL.run (d := 17) (by rfl) (by rfl) ?_
      refine WL.p (by rfl) (Yl.loadB sca3 (by rfl) hs (by repeat (first | exact List.mem_cons_self | apply List.mem_cons_of_mem)) (by rfl)) ?_
      refine WL.run (d := 17) (by rfl) (by rfl) ?_
      refine WL.p (by rfl) (Yl.fieldAddr fa106_2 (by rfl)) ?_
      refine WL.run (d := 17) (by rfl) (by rfl) ?_
      refine WL.p (by rfl) (Yl.loadB sca3 (by rfl) hs (by repeat (first | exact List.mem_cons_self | apply List.mem_cons_of_mem)) (by rfl)) ?_
      refine WL.run (d := 17) (by rfl) (by rfl) ?_
      refine WL.p (by rfl) (Yl.eqi (by rfl) (by rfl)) ?_
      refine WL.p (by rfl) (Yl.pickT (by rfl) (by rfl)) ?_
      refine WL.p (by rfl) (Yl.move (by rfl)) ?_
      refine WL.split (d := 24) (by rfl) (fun h3 => ?_) (fun h3 => ?_)
      ·
        replace h3 := of_decide_eq_true h3
        refine WL.run (d := 24) (by rfl) (by rfl) ?_
        refine WL.p (by rfl) (Yl.fieldAddr fa106_3 (by rfl)) ?_
        refine WL.run (d := 24) (by rfl) (by rfl) ?_
        refine WL.p (by rfl) (Yl.loadB sca79 (by rfl) hs (by repeat (first | exact List.mem_cons_self | apply List.mem_cons_of_mem)) (by rfl)) ?_
        refine WL.run (d := 24) (by rfl) (by rfl) ?_
        refine WL.p (by rfl) (Yl.fieldAddr fa106_3 (by rfl)) ?_
        refine WL.run (d := 24) (by rfl) (by rfl) ?_
        refine WL.p (by rfl) (Yl.loadB sca79 (by rfl) hs (by repeat (first | exact List.mem_cons_self | apply List.mem_cons_of_mem)) (by rfl)) ?_
        refine WL.run (d := 24) (by rfl) (by rfl) ?_
        refine WL.callp hs (by rfl) (Yc.func (by rfl) fn64) (c_slices_Equal___impl_Attr_impl_Attr_ _ _ _ (Ph.old h_a.attrs hs) (Ph.old h_b.attrs hs)) ?_
        clear hs; intro w hs
        refine WL.p (by rfl) (Yl.pickT (by rfl) (by rfl)) ?_
        refine WL.p (by rfl) (Yl.assign (by rfl)) ?_
        refine WL.next ?_
        refine WC.ret ?_
        refine fin1' rfl (by rfl) ?_
        refine RetP.mk hs ?_
        simp_all [TNode.ext_iff]
      ·
        replace h3 := of_decide_eq_false h3
        refine WL.skip (d := 24) (by rfl) (by rfl) (by rfl) (by rfl) ?_
        refine WL.skip (d := 24) (by rfl) (by rfl) (by rfl) (by rfl) ?_
        refine WL.skip (d := 24) (by rfl) (by rfl) (by rfl) (by rfl) ?_
        refine WL.skip (d := 24) (by rfl) (by rfl) (by rfl) (by rfl) ?_
        refine WL.skip (d := 24) (by rfl) (by rfl) (by rfl) (by rfl) ?_
        refine WL.p (by rfl) (Yl.pickF (by rfl) (by rfl)) ?_
        refine WL.p (by rfl) (Yl.assign (by rfl)) ?_
        refine WL.next ?_
        refine WC.ret ?_
        refine fin1' rfl (by rfl) ?_
        refine RetP.mk hs ?_
        simp_all [TNode.ext_iff]
    ·
      replace h2 := of_decide_eq_false h2
      refine WL.skip (d := 17) (by rfl) (by rfl) (by rfl) (by rfl) ?_
      refine WL.skip (d := 17) (by rfl) (by rfl) (by rfl) (by rfl) ?_
      refine WL.skip (d := 17) (by rfl) (by rfl) (by rfl) (by rfl) ?_
      refine WL.skip (d := 17) (by rfl) (by rfl) (by rfl) (by rfl) ?_
      refine WL.skip (d := 17) (by rfl) (by rfl) (by rfl) (by rfl) ?_
      refine WL.p (by rfl) (Yl.pickF (by rfl) (by rfl)) ?_
      refine WL.p (by rfl) (Yl.move (by rfl)) ?_
      refine WL.skip (d := 24) (by rfl) (by rfl) (by rfl) (by rfl) ?_
      refine WL.skip (d := 24) (by rfl) (by rfl) (by rfl) (by rfl) ?_
      refine WL.skip (d := 24) (by rfl) (by rfl) (by rfl) (by rfl) ?_
      refine WL.skip (d := 24) (by rfl) (by rfl) (by rfl) (by rfl) ?_
      refine WL.skip (d := 24) (by rfl) (by rfl) (by rfl) (by rfl) ?_
      refine WL.p (by rfl) (Yl.pickF (by rfl) (by rfl)) ?_
      refine WL.p (by rfl) (Yl.assign (by rfl)) ?_
      refine WL.next ?_
      refine WC.ret ?_
      refine fin1' rfl (by rfl) ?_
      refine RetP.mk hs ?_
      simp_all [TNode.ext_iff]
  ·
    replace h1 := of_decide_eq_false h1
    refine WL.skip (d := 10) (by rfl) (by rfl) (by rfl) (by rfl) ?_
    refine WL.skip (d := 10) (by rfl) (by rfl) (by rfl) (by rfl) ?_
    refine WL.skip (d := 10) (by rfl) (by rfl) (by rfl) (by rfl) ?_
    refine WL.skip (d := 10) (by rfl) (by rfl) (by rfl) (by rfl) ?_
    refine WL.skip (d := 10) (by rfl) (by rfl) (by rfl) (by rfl) ?_
    refine WL.p (by rfl) (Yl.pickF (by rfl) (by rfl)) ?_
    refine WL.p (by rfl) (Yl.move (by rfl)) ?_
    refine WL.skip (d := 17) (by rfl) (by rfl) (by rfl) (by rfl) ?_
    refine WL.skip (d := 17) (by rfl) (by rfl) (by rfl) (by rfl) ?_
    refine WL.skip (d := 17) (by rfl) (by rfl) (by rfl) (by rfl) ?_
    refine WL.skip (d := 17) (by rfl) (by rfl) (by rfl) (by rfl) ?_
    refine WL.skip (d := 17) (by rfl) (by rfl) (by rfl) (by rfl) ?_
    refine WL.p (by rfl) (Yl.pickF (by rfl) (by rfl)) ?_
    refine WL.p (by rfl) (Yl.move (by rfl)) ?_
    refine WL.skip (d := 24) (by rfl) (by rfl) (by rfl) (by rfl) ?_
    refine WL.skip (d := 24) (by rfl) (by rfl) (by rfl) (by rfl) ?_
    refine WL.skip (d := 24) (by rfl) (by rfl) (by rfl) (by rfl) ?_
    refine WL.skip (d := 24) (by rfl) (by rfl) (by rfl) (by rfl) ?_
    refine WL.skip (d := 24) (by rfl) (by rfl) (by rfl) (by rfl) ?_
    refine WL.p (by rfl) (Yl.pickF (by rfl) (by rfl)) ?_
    refine WL.p (by rfl) (Yl.assign (by rfl)) ?_
    refine WL.next ?_
    refine WC.ret ?_
    refine fin1' rfl (by rfl) ?_
    refine RetP.mk hs ?_
    simp_all [TNode.ext_iff]

theorem c_slices_EqualFunc___impl_Node___impl_Node_impl_Node_impl_Node_ (s1 : (Sl PNode)) (s2 : (Sl PNode)) (eq : FuncId) (us_eq : List Value) (p_eq : PNode → PNode → Bool) (w : World) (h_s1 : Ph.ok w s1) (h_s2 : Ph.ok w s2)  (hfn_eq : FN Try.prog eq) (hf_eq : ∀ x ∈ s1.l, ∀ y ∈ s2.l, ∀ w', Below w.heap.size w w' → Calls Try.prog eq (([.agg (Ph.enc x).toArray, .agg (Ph.enc y).toArray] : List Value) ++ us_eq).toArray w' (RetP w' (Bo (p_eq x y)))) : Calls Try.prog 65 [Sl.v s1, Sl.v s2, .func (.func eq) #[] us_eq.toArray].toArray w (RetP w (Bo (eqWith p_eq s1.l s2.l))) := by
  have hw := h_s1.lt
  refine enterN 32 Try.func65 rfl rfl rfl ?_
  have hs := Sat.start w
  refine WC.seq ?_
  refine WL.p (by rfl) (Yl.assign (by rfl)) ?_
  refine WL.next ?_
  refine WC.seq' ?_
  refine WC.seq ?_
  refine WL.p (by rfl) (Yl.move (by rfl)) ?_
  refine WL.p (by rfl) (Yl.len_sl slu45 (by rfl)) ?_
  refine WL.p (by rfl) (Yl.move (by rfl)) ?_
  refine WL.p (by rfl) (Yl.len_sl slu45 (by rfl)) ?_
  refine WL.p (by rfl) (Yl.nei (by rfl) (by rfl)) ?_
  refine WL.next ?_
  refine WC.condS (by rfl) (fun h1 => ?_) (fun h1 => ?_)
  ·
    replace h1 := not_eq_true h1
    replace h1 := of_decide_eq_false h1
    refine WC.seq ?_
    refine WL.p (by rfl) (Yl.assign (by rfl)) ?_
    refine WL.next ?_
    refine WC.ret ?_
    refine At.thenret ?_
    refine fin1' rfl (by rfl) ?_
    refine RetP.mk hs ?_
    rw [eqWith_len (by omega)]
  ·
    replace h1 := not_eq_false h1
    replace h1 := of_decide_eq_true h1
    refine WC.skipn ?_
    refine WC.seq' ?_
    refine WC.seq ?_
    refine WL.p (by rfl) (Yl.move (by rfl)) ?_
    refine WL.p (by rfl) (Yl.len_sl slu45 (by rfl)) ?_
    refine WL.p (by rfl) (Yl.move (by rfl)) ?_
    refine WL.next ?_
    refine WC.block ?_
    refine WC.loopC (ι := Nat) (fun k => s1.l.length - k) (fun k => [(17, I (k : Int))]) (fun _ => []) (fun k => eqWith p_eq s1.l s2.l = eqWith p_eq (s1.l.drop k) (s2.l.drop k)) [(0, _), (1, _), (2, _), (10, _), (11, _), (12, _), (13, _), (14, _), (15, _), (16, _)] 0 (hs) ⟨by rfl, by rfl, by rfl, by rfl, by rfl, by rfl, by rfl, by rfl, by rfl, by rfl, trivial⟩ ⟨by rfl, trivial⟩ ?_ ?_
    ·
      simp
    clear hs; rintro k w hJ hs
    simp only [List.nil_append] at hs
    refine WC.seq ?_
    refine WL.p (by rfl) (Yl.lss (by rfl) (by rfl)) ?_
    refine WL.next ?_
    refine WC.seq' ?_
    refine WC.condS (by rfl) (fun h2 => ?_) (fun h2 => ?_)
    ·
      replace h2 := of_decide_eq_true h2
      obtain ⟨d, hd⟩ := exists_get (l := s1.l) (k := k) (by omega)
      obtain ⟨d2, hd2⟩ := exists_get (l := s2.l) (k := k) (by omega)
      rw [drop_cons hd, drop_cons hd2] at hJ
      refine WC.skipn ?_
      refine WC.seq' ?_
      refine WC.block ?_
      refine WC.seq ?_
      refine WL.p (by rfl) (Yl.move (by rfl)) ?_
      refine WL.p (by rfl) (Yl.indexAddr slt45 (by rfl) (by rfl) (Ph.old h_s1 hs) (by rfl) (hd)) ?_
      refine WL.p (by rfl) (Yl.loadA agg106 (by rfl) (Sl.Ok.at_ (Ph.old h_s1 hs) (by assumption)).2 (by rfl)) ?_
      refine WL.r (by rfl) (Yr.alloc hs zt106) ?_
      clear hs; rintro _ w ⟨b1, rfl, hb, hs⟩; clear hb
      refine WL.p (by rfl) (Yl.assign (by rfl)) ?_
      refine WL.s (Yr.storeB hs (by rfl) (by rfl) (by rfl) (by repeat (first | exact Repl.here | apply Repl.there)) (by repeat (first | (apply SetAt.here; repeat (first | exact Over.nil | apply Over.cons)) | apply SetAt.there)) (by rfl) (by exact szf106)) ?_
      clear hs; rintro _ w hs
      refine WL.next ?_
      refine WC.seq ?_
      refine WL.p (by rfl) (Yl.move (by rfl)) ?_
      refine WL.p (by rfl) (Yl.move (by rfl)) ?_
      refine WL.p (by rfl) (Yl.indexAddr slt45 (by rfl) (by rfl) (Ph.old h_s2 hs) (by rfl) (hd2)) ?_
      refine WL.p (by rfl) (Yl.loadA agg106 (by rfl) (Sl.Ok.at_ (Ph.old h_s2 hs) (by assumption)).2 (by rfl)) ?_
      refine WL.r (by rfl) (Yr.alloc hs zt106) ?_
      clear hs; rintro _ w ⟨b2, rfl, hb, hs⟩; clear hb
      refine WL.s (Yr.storeB hs (by rfl) (by rfl) (by rfl) (by repeat (first | exact Repl.here | apply Repl.there)) (by repeat (first | (apply SetAt.here; repeat (first | exact Over.nil | apply Over.cons)) | apply SetAt.there)) (by rfl) (by exact szf106)) ?_
      clear hs; rintro _ w hs
      refine WL.next ?_
      refine WC.seq ?_
      refine WL.p (by rfl) (Yl.move (by rfl)) ?_
      refine WL.p (by rfl) (Yl.loadAB agg106 (by rfl) hs (by repeat (first | exact List.mem_cons_self | apply List.mem_cons_of_mem)) (by rfl) (by rfl)) ?_
      refine WL.p (by rfl) (Yl.loadAB agg106 (by rfl) hs (by repeat (first | exact List.mem_cons_self | apply List.mem_cons_of_mem)) (by rfl) (by rfl)) ?_
      refine WL.callp hs (by rfl) (Yc.value (by rfl) (by rfl) hfn_eq (by rfl)) (hf_eq _ (List.mem_of_getElem? (by assumption)) _ (List.mem_of_getElem? (by assumption)) _ hs.below) ?_
      clear hs; intro w hs
      refine WL.p (by rfl) (Yl.not (by rfl)) ?_
      refine WL.next ?_
      refine WC.condS (by rfl) (fun h3 => ?_) (fun h3 => ?_)
      ·
        replace h3 := not_eq_true h3
        refine WC.seq ?_
        refine WL.p (by rfl) (Yl.assign (by rfl)) ?_
        refine WL.next ?_
        refine WC.ret ?_
        refine At.blockret ?_
        refine At.thenret ?_
        refine At.thenret ?_
        refine At.blockret ?_
        refine At.thenret ?_
        refine fin1' rfl (by rfl) ?_
        refine RetP.mk hs ?_
        rw [hJ]; simp_all [eqWith]
      ·
        replace h3 := not_eq_false h3
        refine WC.skip ?_
        refine At.blocknormal ?_
        refine At.then_ ?_
        refine WC.region ?_
        refine WL.p (by rfl) (Yl.add (by rfl) (by rfl) (by omega)) ?_
        refine WL.p (by rfl) (Yl.move (by rfl)) ?_
        refine WL.nil ?_
        refine At.roundC (k + 1) (hs.only (by repeat (first | exact Sel.nil | (apply Sel.cons; (repeat (first | exact Ext.here | apply Ext.there)))))) ⟨by rfl, by rfl, by rfl, by rfl, by rfl, by rfl, by rfl, by rfl, by rfl, by rfl, trivial⟩ ⟨by rfl, trivial⟩ ?_ ?_
        ·
          omega
        ·
          rw [hJ]; simp_all [eqWith]
    ·
      replace h2 := of_decide_eq_false h2
      rw [drop_out (l := s1.l) (by omega), drop_out (l := s2.l) (by omega)] at hJ
      refine WC.exit ?_
      refine At.thenexit ?_
      refine At.thenexit ?_
      refine At.blockexit ?_
      refine At.then_ ?_
      refine WC.seq ?_
      refine WL.p (by rfl) (Yl.assign (by rfl)) ?_
      refine WL.next ?_
      refine WC.ret ?_
      refine fin1' rfl (by rfl) ?_
      refine RetP.mk hs ?_
      rw [hJ]; simp_all [eqWith]

theorem c_slices_Equal___int_int_ (s1 : (Sl Int)) (s2 : (Sl Int)) (w : World) (h_s1 : Ph.ok w s1) (h_s2 : Ph.ok w s2)  : Calls Try.prog 67 [Sl.v s1, Sl.v s2].toArray w (RetP w (Bo (decide (s1.l = s2.l)))) := by
  have hw := h_s1.lt
  refine enterN 26 Try.func67 rfl rfl rfl ?_
  have hs := Sat.start w
  refine WC.seq ?_
  refine WL.p (by rfl) (Yl.assign (by rfl)) ?_
  refine WL.next ?_
  refine WC.seq' ?_
  refine WC.seq ?_
  refine WL.p (by rfl) (Yl.move (by rfl)) ?_
  refine WL.p (by rfl) (Yl.len_sl slu31 (by rfl)) ?_
  refine WL.p (by rfl) (Yl.move (by rfl)) ?_
  refine WL.p (by rfl) (Yl.len_sl slu31 (by rfl)) ?_
  refine WL.p (by rfl) (Yl.nei (by rfl) (by rfl)) ?_
  refine WL.next ?_
  refine WC.condS (by rfl) (fun h1 => ?_) (fun h1 => ?_)
  ·
    replace h1 := not_eq_true h1
    replace h1 := of_decide_eq_false h1
    refine WC.seq ?_
    refine WL.p (by rfl) (Yl.assign (by rfl)) ?_
    refine WL.next ?_
    refine WC.ret ?_
    refine At.thenret ?_
    refine fin1' rfl (by rfl) ?_
    refine RetP.mk hs ?_
    have hne : ¬ s1.l = s2.l := by
      intro h
      have h2 := congrArg List.length h
      try simp at h2
      omega
    simp only [hne, decide_false]
  ·
    replace h1 := not_eq_false h1
    replace h1 := of_decide_eq_true h1
    refine WC.skipn ?_
    refine WC.seq' ?_
    refine WC.seq ?_
    refine WL.p (by rfl) (Yl.move (by rfl)) ?_
    refine WL.p (by rfl) (Yl.len_sl slu31 (by rfl)) ?_
    refine WL.p (by rfl) (Yl.move (by rfl)) ?_
    refine WL.next ?_
    refine WC.block ?_
    refine WC.loopC (ι := Nat) (fun k => s1.l.length - k) (fun k => [(13, I (k : Int))]) (fun _ => []) (fun k => decide (s1.l = s2.l) = decide (s1.l.drop k = s2.l.drop k)) [(0, _), (1, _), (6, _), (7, _), (8, _), (9, _), (10, _), (11, _), (12, _)] 0 (hs) ⟨by rfl, by rfl, by rfl, by rfl, by rfl, by rfl, by rfl, by rfl, by rfl, trivial⟩ ⟨by rfl, trivial⟩ ?_ ?_
    ·
      simp
    clear hs; rintro k w hJ hs
    simp only [List.nil_append] at hs
    refine WC.seq ?_
    refine WL.p (by rfl) (Yl.lss (by rfl) (by rfl)) ?_
    refine WL.next ?_
    refine WC.seq' ?_
    refine WC.condS (by rfl) (fun h2 => ?_) (fun h2 => ?_)
    ·
      replace h2 := of_decide_eq_true h2
      obtain ⟨d, hd⟩ := exists_get (l := s1.l) (k := k) (by omega)
      obtain ⟨d2, hd2⟩ := exists_get (l := s2.l) (k := k) (by omega)
      rw [drop_cons hd, drop_cons hd2] at hJ
      refine WC.skipn ?_
      refine WC.seq' ?_
      refine WC.block ?_
      refine WC.seq ?_
      refine WL.p (by rfl) (Yl.move (by rfl)) ?_
      refine WL.p (by rfl) (Yl.assign (by rfl)) ?_
      refine WL.next ?_
      refine WC.quietn mixed (by kernel_rfl) hs ?_
      refine WQ.p (by rfl) (fun w hs => Yl.move (by rfl)) ?_
      refine WQ.p (by rfl) (fun w hs => Yl.move (by rfl)) ?_
      refine WQ.p (by rfl) (fun w hs => Yl.indexAddr slt31 (by rfl) (by rfl) (Ph.old h_s1 hs) (by rfl) (hd)) ?_
      refine WQ.p (by rfl) (fun w hs => Yl.loadC0 sca3 (by rfl) (Sl.Ok.at_ (Ph.old h_s1 hs) (by assumption)).2 (by rfl)) ?_
      refine WQ.p (by rfl) (fun w hs => Yl.move (by rfl)) ?_
      refine WQ.p (by rfl) (fun w hs => Yl.move (by rfl)) ?_
      refine WQ.p (by rfl) (fun w hs => Yl.indexAddr slt31 (by rfl) (by rfl) (Ph.old h_s2 hs) (by rfl) (hd2)) ?_
      refine WQ.p (by rfl) (fun w hs => Yl.loadC0 sca3 (by rfl) (Sl.Ok.at_ (Ph.old h_s2 hs) (by assumption)).2 (by rfl)) ?_
      refine WQ.p (by rfl) (fun w hs => Yl.nei (by rfl) (by rfl)) ?_
      refine WQ.next ?_
      clear hs; intro w hs
      refine WC.condS (by rfl) (fun h3 => ?_) (fun h3 => ?_)
      ·
        replace h3 := not_eq_true h3
        replace h3 := of_decide_eq_false h3
        refine WC.seq ?_
        refine WL.p (by rfl) (Yl.assign (by rfl)) ?_
        refine WL.next ?_
        refine WC.ret ?_
        refine At.blockret ?_
        refine At.thenret ?_
        refine At.thenret ?_
        refine At.blockret ?_
        refine At.thenret ?_
        refine fin1' rfl (by rfl) ?_
        refine RetP.mk hs ?_
        rw [hJ]; simp_all
      ·
        replace h3 := not_eq_false h3
        replace h3 := of_decide_eq_true h3
        refine WC.skip ?_
        refine At.blocknormal ?_
        refine At.then_ ?_
        refine WC.region ?_
        refine WL.p (by rfl) (Yl.add (by rfl) (by rfl) (by omega)) ?_
        refine WL.p (by rfl) (Yl.move (by rfl)) ?_
        refine WL.nil ?_
        refine At.roundC (k + 1) (hs.only (by repeat (first | exact Sel.nil | (apply Sel.cons; (repeat (first | exact Ext.here | apply Ext.there)))))) ⟨by rfl, by rfl, by rfl, by rfl, by rfl, by rfl, by rfl, by rfl, by rfl, trivial⟩ ⟨by rfl, trivial⟩ ?_ ?_
        ·
          omega
        ·
          rw [hJ]; simp_all
    ·
      replace h2 := of_decide_eq_false h2
      rw [drop_out (l := s1.l) (by omega), drop_out (l := s2.l) (by omega)] at hJ
      refine WC.exit ?_
      refine At.thenexit ?_
      refine At.thenexit ?_
      refine At.blockexit ?_
      refine At.then_ ?_
      refine WC.seq ?_
      refine WL.p (by rfl) (Yl.assign (by rfl)) ?_
      refine WL.next ?_
      refine WC.ret ?_
      refine fin1' rfl (by rfl) ?_
      refine RetP.mk hs ?_
      rw [hJ]; simp_all

theorem c_impl_EqualBuilders (a : PBuilder) (b : PBuilder) (w : World) (h_a : Ph.ok w a) (h_b : Ph.ok w b)  : Calls Try.prog 36 [.agg #[Sl.v a.nodes, Sl.v a.opn], .agg #[Sl.v b.nodes, Sl.v b.opn]].toArray w (RetP w (Bo (decide (a.lg = b.lg)))) := by
  refine enterN 17 Try.func36 rfl rfl rfl ?_
  have hs := Sat.start w
  refine WC.seq ?_
  refine WL.r (by rfl) (Yr.box hs (by rfl) (by rfl)) ?_
  clear hs; rintro _ w ⟨b1, rfl, hb, hs⟩; clear hb
  refine WL.r (by rfl) (Yr.box hs (by rfl) (by rfl)) ?_
  clear hs; rintro _ w ⟨b2, rfl, hb, hs⟩; clear hb
  refine WL.p (by rfl) (Yl.assign (by rfl)) ?_
  refine WL.next ?_
  refine WC.seq ?_
  refine WL.p (by rfl) (Yl.fieldAddr fa47_0 (by rfl)) ?_
  refine WL.p (by rfl) (Yl.loadB sca45 (by rfl) hs (by repeat (first | exact List.mem_cons_self | apply List.mem_cons_of_mem)) (by rfl)) ?_
  refine WL.p (by rfl) (Yl.fieldAddr fa47_0 (by rfl)) ?_
  refine WL.p (by rfl) (Yl.loadB sca45 (by rfl) hs (by repeat (first | exact List.mem_cons_self | apply List.mem_cons_of_mem)) (by rfl)) ?_
  refine WL.callp hs (by rfl) (Yc.func (by rfl) fn65) (c_slices_EqualFunc___impl_Node___impl_Node_impl_Node_impl_Node_ _ _ 66 _ (fun x y => decide (x.lg = y.lg)) _ (Ph.old h_a.nodes hs) (Ph.old h_b.nodes hs) fn66 (fun x hx y hy w1 hb1 => c_impl_equalNodes x y w1 (Ph.ext hb1 ((Ph.old h_a.nodes hs).elems x hx)) (Ph.ext hb1 ((Ph.old h_b.nodes hs).elems y hy)))) ?_
  clear hs; intro w hs
  refine WL.p (by rfl) (Yl.move (by rfl)) ?_
  refine WL.split (d := 10) (by rfl) (fun h1 => ?_) (fun h1 => ?_)
  ·
    refine WL.run (d := 10) (by rfl) (by rfl) ?_
    refine WL.p (by rfl) (Yl.fieldAddr fa47_1 (by rfl)) ?_
    refine WL.run (d := 10) (by rfl) (by rfl) ?_
    refine WL.p (by rfl) (Yl.loadB sca31 (by rfl) hs (by repeat (first | exact List.mem_cons_self | apply List.mem_cons_of_mem)) (by rfl)) ?_
    refine WL.run (d := 10) (by rfl) (by rfl) ?_
    refine WL.p (by rfl) (Yl.fieldAddr fa47_1 (by rfl)) ?_
    refine WL.run (d := 10) (by rfl) (by rfl) ?_
    refine WL.p (by rfl) (Yl.loadB sca31 (by rfl) hs (by repeat (first | exact List.mem_cons_self | apply List.mem_cons_of_mem)) (by rfl)) ?_
    refine WL.run (d := 10) (by rfl) (by rfl) ?_
    refine WL.callp hs (by rfl) (Yc.func (by rfl) fn67) (c_slices_Equal___int_int_ _ _ _ (Ph.old h_a.opn hs) (Ph.old h_b.opn hs)) ?_
    clear hs; intro w hs
    refine WL.p (by rfl) (Yl.pickT (by rfl) (by rfl)) ?_
    refine WL.p (by rfl) (Yl.assign (by rfl)) ?_
    refine WL.next ?_
    refine WC.ret ?_
    refine fin1' rfl (by rfl) ?_
    refine RetP.mk hs ?_
    try simp only [eqWith_map] at *
    simp_all [TBuilder.ext_iff]
  ·
    refine WL.skip (d := 10) (by rfl) (by rfl) (by rfl) (by rfl) ?_
    refine WL.skip (d := 10) (by rfl) (by rfl) (by rfl) (by rfl) ?_
    refine WL.skip (d := 10) (by rfl) (by rfl) (by rfl) (by rfl) ?_
    refine WL.skip (d := 10) (by rfl) (by rfl) (by rfl) (by rfl) ?_
    refine WL.skip (d := 10) (by rfl) (by rfl) (by rfl) (by rfl) ?_
    refine WL.p (by rfl) (Yl.pickF (by rfl) (by rfl)) ?_
    refine WL.p (by rfl) (Yl.assign (by rfl)) ?_
    refine WL.next ?_
    refine WC.ret ?_
    refine fin1' rfl (by rfl) ?_
    refine RetP.mk hs ?_
    try simp only [eqWith_map] at *
    simp_all [TBuilder.ext_iff]

theorem c_slices_EqualFunc___impl_Token___impl_Token_impl_Token_impl_Token_ (s1 : (Sl PToken)) (s2 : (Sl PToken)) (eq : FuncId) (us_eq : List Value) (p_eq : PToken → PToken → Bool) (w : World) (h_s1 : Ph.ok w s1) (h_s2 : Ph.ok w s2)  (hfn_eq : FN Try.prog eq) (hf_eq : ∀ x ∈ s1.l, ∀ y ∈ s2.l, ∀ w', Below w.heap.size w w' → Calls Try.prog eq (([.agg (Ph.enc x).toArray, .agg (Ph.enc y).toArray] : List Value) ++ us_eq).toArray w' (RetP w' (Bo (p_eq x y)))) : Calls Try.prog 34 [Sl.v s1, Sl.v s2, .func (.func eq) #[] us_eq.toArray].toArray w (RetP w (Bo (eqWith p_eq s1.l s2.l))) := by
  have hw := h_s1.lt
  refine enterN 32 Try.func34 rfl rfl rfl ?_
  have hs := Sat.start w
  refine WC.seq ?_
  refine WL.p (by rfl) (Yl.assign (by rfl)) ?_
  refine WL.next ?_
  refine WC.seq' ?_
  refine WC.seq ?_
  refine WL.p (by rfl) (Yl.move (by rfl)) ?_
  refine WL.p (by rfl) (Yl.len_sl slu44 (by rfl)) ?_
  refine WL.p (by rfl) (Yl.move (by rfl)) ?_
  refine WL.p (by rfl) (Yl.len_sl slu44 (by rfl)) ?_
  refine WL.p (by rfl) (Yl.nei (by rfl) (by rfl)) ?_
  refine WL.next ?_
  refine WC.condS (by rfl) (fun h1 => ?_) (fun h1 => ?_)
  ·
    replace h1 := not_eq_true h1
    replace h1 := of_decide_eq_false h1
    refine WC.seq ?_
    refine WL.p (by rfl) (Yl.assign (by rfl)) ?_
    refine WL.next ?_
    refine WC.ret ?_
    refine At.thenret ?_
    refine fin1' rfl (by rfl) ?_
    refine RetP.mk hs ?_
    rw [eqWith_len (by omega)]
  ·
    replace h1 := not_eq_false h1
    replace h1 := of_decide_eq_true h1
    refine WC.skipn ?_
    refine WC.seq' ?_
    refine WC.seq ?_
    refine WL.p (by rfl) (Yl.move (by rfl)) ?_
    refine WL.p (by rfl) (Yl.len_sl slu44 (by rfl)) ?_
    refine WL.p (by rfl) (Yl.move (by rfl)) ?_
    refine WL.next ?_
    refine WC.block ?_
    refine WC.loopC (ι := Nat) (fun k => s1.l.length - k) (fun k => [(17, I (k : Int))]) (fun _ => []) (fun k => eqWith p_eq s1.l s2.l = eqWith p_eq (s1.l.drop k) (s2.l.drop k)) [(0, _), (1, _), (2, _), (10, _), (11, _), (12, _), (13, _), (14, _), (15, _), (16, _)] 0 (hs) ⟨by rfl, by rfl, by rfl, by rfl, by rfl, by rfl, by rfl, by rfl, by rfl, by rfl, trivial⟩ ⟨by rfl, trivial⟩ ?_ ?_
    ·
      simp
    clear hs; rintro k w hJ hs
    simp only [List.nil_append] at hs
    refine WC.seq ?_
    refine WL.p (by rfl) (Yl.lss (by rfl) (by rfl)) ?_
    refine WL.next ?_
    refine WC.seq' ?_
    refine WC.condS (by rfl) (fun h2 => ?_) (fun h2 => ?_)
    ·
      replace h2 := of_decide_eq_true h2
      obtain ⟨d, hd⟩ := exists_get (l := s1.l) (k := k) (by omega)
      obtain ⟨d2, hd2⟩ := exists_get (l := s2.l) (k := k) (by omega)
      rw [drop_cons hd, drop_cons hd2] at hJ
      refine WC.skipn ?_
      refine WC.seq' ?_
      refine WC.block ?_
      refine WC.seq ?_
      refine WL.p (by rfl) (Yl.move (by rfl)) ?_
      refine WL.p (by rfl) (Yl.indexAddr slt44 (by rfl) (by rfl) (Ph.old h_s1 hs) (by rfl) (hd)) ?_
      refine WL.p (by rfl) (Yl.loadA agg81 (by rfl) (Sl.Ok.at_ (Ph.old h_s1 hs) (by assumption)).2 (by rfl)) ?_
      refine WL.r (by rfl) (Yr.alloc hs zt81) ?_
      clear hs; rintro _ w ⟨b1, rfl, hb, hs⟩; clear hb
      refine WL.p (by rfl) (Yl.assign (by rfl)) ?_
      refine WL.s (Yr.storeB hs (by rfl) (by rfl) (by rfl) (by repeat (first | exact Repl.here | apply Repl.there)) (by repeat (first | (apply SetAt.here; repeat (first | exact Over.nil | apply Over.cons)) | apply SetAt.there)) (by rfl) (by exact szf81)) ?_
      clear hs; rintro _ w hs
      refine WL.next ?_
      refine WC.seq ?_
      refine WL.p (by rfl) (Yl.move (by rfl)) ?_
      refine WL.p (by rfl) (Yl.move (by rfl)) ?_
      refine WL.p (by rfl) (Yl.indexAddr slt44 (by rfl) (by rfl) (Ph.old h_s2 hs) (by rfl) (hd2)) ?_
      refine WL.p (by rfl) (Yl.loadA agg81 (by rfl) (Sl.Ok.at_ (Ph.old h_s2 hs) (by assumption)).2 (by rfl)) ?_
      refine WL.r (by rfl) (Yr.alloc hs zt81) ?_
      clear hs; rintro _ w ⟨b2, rfl, hb, hs⟩; clear hb
      refine WL.s (Yr.storeB hs (by rfl) (by rfl) (by rfl) (by repeat (first | exact Repl.here | apply Repl.there)) (by repeat (first | (apply SetAt.here; repeat (first | exact Over.nil | apply Over.cons)) | apply SetAt.there)) (by rfl) (by exact szf81)) ?_
      clear hs; rintro _ w hs
      refine WL.next ?_
      refine WC.seq ?_
      refine WL.p (by rfl) (Yl.move (by rfl)) ?_
      refine WL.p (by rfl) (Yl.loadAB agg81 (by rfl) hs (by repeat (first | exact List.mem_cons_self | apply List.mem_cons_of_mem)) (by rfl) (by rfl)) ?_
      refine WL.p (by rfl) (Yl.loadAB agg81 (by rfl) hs (by repeat (first | exact List.mem_cons_self | apply List.mem_cons_of_mem)) (by rfl) (by rfl)) ?_
      refine WL.callp hs (by rfl) (Yc.value (by rfl) (by rfl) hfn_eq (by rfl)) (hf_eq _ (List.mem_of_getElem? (by assumption)) _ (List.mem_of_getElem? (by assumption)) _ hs.below) ?_
      clear hs; intro w hs
      refine WL.p (by rfl) (Yl.not (by rfl)) ?_
      refine WL.next ?_
      refine WC.condS (by rfl) (fun h3 => ?_) (fun h3 => ?_)
      ·
        replace h3 := not_eq_true h3
        refine WC.seq ?_
        refine WL.p (by rfl) (Yl.assign (by rfl)) ?_
        refine WL.next ?_
        refine WC.ret ?_
        refine At.blockret ?_
        refine At.thenret ?_
        refine At.thenret ?_
        refine At.blockret ?_
        refine At.thenret ?_
        refine fin1' rfl (by rfl) ?_
        refine RetP.mk hs ?_
        rw [hJ]; simp_all [eqWith]
      ·
        replace h3 := not_eq_false h3
        refine WC.skip ?_
        refine At.blocknormal ?_
        refine At.then_ ?_
        refine WC.region ?_
        refine WL.p (by rfl) (Yl.add (by rfl) (by rfl) (by omega)) ?_
        refine WL.p (by rfl) (Yl.move (by rfl)) ?_
        refine WL.nil ?_
        refine At.roundC (k + 1) (hs.only (by repeat (first | exact Sel.nil | (apply Sel.cons; (repeat (first | exact Ext.here | apply Ext.there)))))) ⟨by rfl, by rfl, by rfl, by rfl, by rfl, by rfl, by rfl, by rfl, by rfl, by rfl, trivial⟩ ⟨by rfl, trivial⟩ ?_ ?_
        ·
          omega
        ·
          rw [hJ]; simp_all [eqWith]
    ·
      replace h2 := of_decide_eq_false h2
      rw [drop_out (l := s1.l) (by omega), drop_out (l := s2.l) (by omega)] at hJ
      refine WC.exit ?_
      refine At.thenexit ?_
      refine At.thenexit ?_
      refine At.blockexit ?_
      refine At.then_ ?_
      refine WC.seq ?_
      refine WL.p (by rfl) (Yl.assign (by rfl)) ?_
      refine WL.next ?_
      refine WC.ret ?_
      refine fin1' rfl (by rfl) ?_
      refine RetP.mk hs ?_
      rw [hJ]; simp_all [eqWith]

end Go.Sw
