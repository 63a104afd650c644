/- Walks: what each function of the program returns, for every input. Printed by gen.py. -/
import Derived.Test.YtppjnohcfljmoaaGreatDoorW1
set_option linter.all false
namespace Go.Sw
open Go Go.RowKit Go.Proofs

theorem c_impl_IsValue (s : Str) (w : World) (h_s : Ph.ok w s)  : Calls Tryz.prog 196 [S s].toArray w (RetP w (Bo (isValue s))) := by
  have hw : s.length ≤ 9223372036854775807 := h_s
  refine enterN 42 Tryz.func196 rfl rfl rfl ?_
  have hs := Sat.start w
  refine WC.seq ?_
  refine WL.p (by rfl) (Yl.assign (by rfl)) ?_
  refine WL.next ?_
  refine WC.seq' ?_
  refine WC.seq ?_
  refine WL.p (by rfl) (Yl.assign (by rfl)) ?_
  refine WL.next ?_
  refine WC.block ?_
  refine WC.loopC (ι := Nat) (fun k => s.length - k) (fun k => [(3, I (k : Int))]) (fun _ => []) (fun k => s.all valueByte = (s.drop k).all valueByte) [(0, _)] 0 (hs) ⟨by rfl, trivial⟩ ⟨by rfl, trivial⟩ ?_ ?_
  ·
    simp
  clear hs; rintro k w hJ hs
  simp only [List.nil_append] at hs
  refine WC.seq' ?_
  refine WC.seq ?_
  refine WL.p (by rfl) (Yl.move (by rfl)) ?_
  refine WL.p (by rfl) (Yl.move (by rfl)) ?_
  refine WL.p (by rfl) (Yl.len_str str9 (by rfl)) ?_
  refine WL.p (by rfl) (Yl.lss (by rfl) (by rfl)) ?_
  refine WL.next ?_
  refine WC.condS (by rfl) (fun h1 => ?_) (fun h1 => ?_)
  ·
    replace h1 := of_decide_eq_true h1
    obtain ⟨d, hd⟩ := exists_get (l := s) (k := k) (by omega)
    rw [drop_cons hd] at hJ
    refine WC.skipn ?_
    refine WC.seq' ?_
    refine WC.block ?_
    refine WC.seq ?_
    refine WL.p (by rfl) (Yl.move (by rfl)) ?_
    refine WL.p (by rfl) (Yl.move (by rfl)) ?_
    refine WL.p (by rfl) (Yl.index str9 (by rfl) (by rfl) (by rfl) (by first | assumption | exact List.getElem?_eq_getElem (by omega))) ?_
    refine WL.p (by rfl) (Yl.geq (by rfl) (by rfl)) ?_
    refine WL.p (by rfl) (Yl.move (by rfl)) ?_
    refine WL.split (d := 14) (by rfl) (fun h2 => ?_) (fun h2 => ?_)
    ·
      replace h2 := of_decide_eq_true h2
      refine WL.run (d := 14) (by rfl) (by rfl) ?_
      refine WL.p (by rfl) (Yl.move (by rfl)) ?_
      refine WL.run (d := 14) (by rfl) (by rfl) ?_
      refine WL.p (by rfl) (Yl.move (by rfl)) ?_
      refine WL.run (d := 14) (by rfl) (by rfl) ?_
      refine WL.p (by rfl) (Yl.index str9 (by rfl) (by rfl) (by rfl) (by first | assumption | exact List.getElem?_eq_getElem (by omega))) ?_
      refine WL.run (d := 14) (by rfl) (by rfl) ?_
      refine WL.p (by rfl) (Yl.leq (by rfl) (by rfl)) ?_
      refine WL.p (by rfl) (Yl.pickT (by rfl) (by rfl)) ?_
      refine WL.p (by rfl) (Yl.move (by rfl)) ?_
      refine WL.split (d := 20) (by rfl) (fun h3 => ?_) (fun h3 => ?_)
      ·
        replace h3 := of_decide_eq_true h3
        refine WL.skip (d := 20) (by rfl) (by rfl) (by rfl) (by rfl) ?_
        refine WL.skip (d := 20) (by rfl) (by rfl) (by rfl) (by rfl) ?_
        refine WL.skip (d := 20) (by rfl) (by rfl) (by rfl) (by rfl) ?_
        refine WL.skip (d := 20) (by rfl) (by rfl) (by rfl) (by rfl) ?_
        refine WL.skip (d := 20) (by rfl) (by rfl) (by rfl) (by rfl) ?_
        refine WL.skipU (d := 25) (by rfl) (by rfl) (by rfl) ?_
        refine WL.skipU (d := 25) (by rfl) (by rfl) (by rfl) ?_
        refine WL.skipU (d := 25) (by rfl) (by rfl) (by rfl) ?_
        refine WL.skipU (d := 25) (by rfl) (by rfl) (by rfl) ?_
        refine WL.skip (d := 20) (by rfl) (by rfl) (by rfl) (by rfl) ?_
        refine WL.p (by rfl) (Yl.pickT (by rfl) (by rfl)) ?_
        refine WL.p (by rfl) (Yl.move (by rfl)) ?_
        refine WL.skip (d := 32) (by rfl) (by rfl) (by rfl) (by rfl) ?_
        refine WL.skip (d := 32) (by rfl) (by rfl) (by rfl) (by rfl) ?_
        refine WL.skip (d := 32) (by rfl) (by rfl) (by rfl) (by rfl) ?_
        refine WL.skip (d := 32) (by rfl) (by rfl) (by rfl) (by rfl) ?_
        refine WL.p (by rfl) (Yl.pickT (by rfl) (by rfl)) ?_
        refine WL.p (by rfl) (Yl.not (by rfl)) ?_
        refine WL.next ?_
        refine WC.condF (by rfl) ?_
        refine WC.skip ?_
        refine At.blocknormal ?_
        refine At.then_ ?_
        refine WC.region ?_
        refine WL.p (by rfl) (Yl.move (by rfl)) ?_
        refine WL.p (by rfl) (Yl.add (by rfl) (by rfl) (by omega)) ?_
        refine WL.p (by rfl) (Yl.assign (by rfl)) ?_
        refine WL.nil ?_
        refine At.roundC (k + 1) (hs.only (by repeat (first | exact Sel.nil | (apply Sel.cons; (repeat (first | exact Ext.here | apply Ext.there)))))) ⟨by rfl, trivial⟩ ⟨by rfl, trivial⟩ ?_ ?_
        ·
          omega
        ·
          rw [hJ]; simp [valueByte, lower, digit]; omega
      ·
        replace h3 := of_decide_eq_false h3
        refine WL.run (d := 20) (by rfl) (by rfl) ?_
        refine WL.p (by rfl) (Yl.move (by rfl)) ?_
        refine WL.run (d := 20) (by rfl) (by rfl) ?_
        refine WL.p (by rfl) (Yl.move (by rfl)) ?_
        refine WL.run (d := 20) (by rfl) (by rfl) ?_
        refine WL.p (by rfl) (Yl.index str9 (by rfl) (by rfl) (by rfl) (by first | assumption | exact List.getElem?_eq_getElem (by omega))) ?_
        refine WL.run (d := 20) (by rfl) (by rfl) ?_
        refine WL.p (by rfl) (Yl.geq (by rfl) (by rfl)) ?_
        refine WL.run (d := 20) (by rfl) (by rfl) ?_
        refine WL.p (by rfl) (Yl.move (by rfl)) ?_
        refine WL.split (d := 25) (by rfl) (fun h4 => ?_) (fun h4 => ?_)
        ·
          replace h4 := of_decide_eq_true h4
          refine WL.run (d := 25) (by rfl) (by rfl) ?_
          refine WL.p (by rfl) (Yl.move (by rfl)) ?_
          refine WL.run (d := 25) (by rfl) (by rfl) ?_
          refine WL.p (by rfl) (Yl.move (by rfl)) ?_
          refine WL.run (d := 25) (by rfl) (by rfl) ?_
          refine WL.p (by rfl) (Yl.index str9 (by rfl) (by rfl) (by rfl) (by first | assumption | exact List.getElem?_eq_getElem (by omega))) ?_
          refine WL.run (d := 25) (by rfl) (by rfl) ?_
          refine WL.p (by rfl) (Yl.leq (by rfl) (by rfl)) ?_
          refine WL.run (d := 20) (by rfl) (by rfl) ?_
          refine WL.p (by rfl) (Yl.pickT (by rfl) (by rfl)) ?_
          refine WL.p (by rfl) (Yl.pickF (by rfl) (by rfl)) ?_
          refine WL.p (by rfl) (Yl.move (by rfl)) ?_
          refine WL.split (d := 32) (by rfl) (fun h5 => ?_) (fun h5 => ?_)
          ·
            replace h5 := of_decide_eq_true h5
            refine WL.skip (d := 32) (by rfl) (by rfl) (by rfl) (by rfl) ?_
            refine WL.skip (d := 32) (by rfl) (by rfl) (by rfl) (by rfl) ?_
            refine WL.skip (d := 32) (by rfl) (by rfl) (by rfl) (by rfl) ?_
            refine WL.skip (d := 32) (by rfl) (by rfl) (by rfl) (by rfl) ?_
            refine WL.p (by rfl) (Yl.pickT (by rfl) (by rfl)) ?_
            refine WL.p (by rfl) (Yl.not (by rfl)) ?_
            refine WL.next ?_
            refine WC.condF (by rfl) ?_
            refine WC.skip ?_
            refine At.blocknormal ?_
            refine At.then_ ?_
            refine WC.region ?_
            refine WL.p (by rfl) (Yl.move (by rfl)) ?_
            refine WL.p (by rfl) (Yl.add (by rfl) (by rfl) (by omega)) ?_
            refine WL.p (by rfl) (Yl.assign (by rfl)) ?_
            refine WL.nil ?_
            refine At.roundC (k + 1) (hs.only (by repeat (first | exact Sel.nil | (apply Sel.cons; (repeat (first | exact Ext.here | apply Ext.there)))))) ⟨by rfl, trivial⟩ ⟨by rfl, trivial⟩ ?_ ?_
            ·
              omega
            ·
              rw [hJ]; simp [valueByte, lower, digit]; omega
          ·
            replace h5 := of_decide_eq_false h5
            refine WL.run (d := 32) (by rfl) (by rfl) ?_
            refine WL.p (by rfl) (Yl.move (by rfl)) ?_
            refine WL.run (d := 32) (by rfl) (by rfl) ?_
            refine WL.p (by rfl) (Yl.move (by rfl)) ?_
            refine WL.run (d := 32) (by rfl) (by rfl) ?_
            refine WL.p (by rfl) (Yl.index str9 (by rfl) (by rfl) (by rfl) (by first | assumption | exact List.getElem?_eq_getElem (by omega))) ?_
            refine WL.run (d := 32) (by rfl) (by rfl) ?_
            refine WL.p (by rfl) (Yl.eqi (by rfl) (by rfl)) ?_
            refine WL.p (by rfl) (Yl.pickF (by rfl) (by rfl)) ?_
            refine WL.p (by rfl) (Yl.not (by rfl)) ?_
            refine WL.next ?_
            refine WC.condS (by rfl) (fun h6 => ?_) (fun h6 => ?_)
            ·
              replace h6 := not_eq_true h6
              replace h6 := of_decide_eq_false h6
              refine WC.seq ?_
              refine WL.p (by rfl) (Yl.assign (by rfl)) ?_
              refine WL.next ?_
              refine WC.ret ?_
              refine At.blockret ?_
              refine At.thenret ?_
              refine At.thenret ?_
              refine At.blockret ?_
              refine At.thenret ?_
              refine fin1' rfl (by rfl) ?_
              refine RetP.mk hs ?_
              first
                | (simp [isValue, hJ, valueByte, lower, digit]; done)
                | (simp [isValue, hJ, valueByte, lower, digit]; omega)
                | simp_all [isValue, hJ, valueByte, lower, digit]
            ·
              replace h6 := not_eq_false h6
              replace h6 := of_decide_eq_true h6
              refine WC.skip ?_
              refine At.blocknormal ?_
              refine At.then_ ?_
              refine WC.region ?_
              refine WL.p (by rfl) (Yl.move (by rfl)) ?_
              refine WL.p (by rfl) (Yl.add (by rfl) (by rfl) (by omega)) ?_
              refine WL.p (by rfl) (Yl.assign (by rfl)) ?_
              refine WL.nil ?_
              refine At.roundC (k + 1) (hs.only (by repeat (first | exact Sel.nil | (apply Sel.cons; (repeat (first | exact Ext.here | apply Ext.there)))))) ⟨by rfl, trivial⟩ ⟨by rfl, trivial⟩ ?_ ?_
              ·
                omega
              ·
                rw [hJ]; simp [valueByte, lower, digit]; omega
        ·
          replace h4 := of_decide_eq_false h4
          refine WL.skip (d := 25) (by rfl) (by rfl) (by rfl) (by rfl) ?_
          refine WL.skip (d := 25) (by rfl) (by rfl) (by rfl) (by rfl) ?_
          refine WL.skip (d := 25) (by rfl) (by rfl) (by rfl) (by rfl) ?_
          refine WL.skip (d := 25) (by rfl) (by rfl) (by rfl) (by rfl) ?_
          refine WL.run (d := 20) (by rfl) (by rfl) ?_
          refine WL.p (by rfl) (Yl.pickF (by rfl) (by rfl)) ?_
          refine WL.p (by rfl) (Yl.pickF (by rfl) (by rfl)) ?_
          refine WL.p (by rfl) (Yl.move (by rfl)) ?_
          refine WL.run (d := 32) (by rfl) (by rfl) ?_
          refine WL.p (by rfl) (Yl.move (by rfl)) ?_
          refine WL.run (d := 32) (by rfl) (by rfl) ?_
          refine WL.p (by rfl) (Yl.move (by rfl)) ?_
          refine WL.run (d := 32) (by rfl) (by rfl) ?_
          refine WL.p (by rfl) (Yl.index str9 (by rfl) (by rfl) (by rfl) (by first | assumption | exact List.getElem?_eq_getElem (by omega))) ?_
          refine WL.run (d := 32) (by rfl) (by rfl) ?_
          refine WL.p (by rfl) (Yl.eqi (by rfl) (by rfl)) ?_
          refine WL.p (by rfl) (Yl.pickF (by rfl) (by rfl)) ?_
          refine WL.p (by rfl) (Yl.not (by rfl)) ?_
          refine WL.next ?_
          refine WC.condS (by rfl) (fun h5 => ?_) (fun h5 => ?_)
          ·
            replace h5 := not_eq_true h5
            replace h5 := of_decide_eq_false h5
            refine WC.seq ?_
            refine WL.p (by rfl) (Yl.assign (by rfl)) ?_
            refine WL.next ?_
            refine WC.ret ?_
            refine At.blockret ?_
            refine At.thenret ?_
            refine At.thenret ?_
            refine At.blockret ?_
            refine At.thenret ?_
            refine fin1' rfl (by rfl) ?_
            refine RetP.mk hs ?_
            first
              | (simp [isValue, hJ, valueByte, lower, digit]; done)
              | (simp [isValue, hJ, valueByte, lower, digit]; omega)
              | simp_all [isValue, hJ, valueByte, lower, digit]
          ·
            replace h5 := not_eq_false h5
            replace h5 := of_decide_eq_true h5
            refine WC.skip ?_
            refine At.blocknormal ?_
            refine At.then_ ?_
            refine WC.region ?_
            refine WL.p (by rfl) (Yl.move (by rfl)) ?_
            refine WL.p (by rfl) (Yl.add (by rfl) (by rfl) (by omega)) ?_
            refine WL.p (by rfl) (Yl.assign (by rfl)) ?_
            refine WL.nil ?_
            refine At.roundC (k + 1) (hs.only (by repeat (first | exact Sel.nil | (apply Sel.cons; (repeat (first | exact Ext.here | apply Ext.there)))))) ⟨by rfl, trivial⟩ ⟨by rfl, trivial⟩ ?_ ?_
            ·
              omega
            ·
              rw [hJ]; simp [valueByte, lower, digit]; omega
    ·
      replace h2 := of_decide_eq_false h2
      refine WL.skip (d := 14) (by rfl) (by rfl) (by rfl) (by rfl) ?_
      refine WL.skip (d := 14) (by rfl) (by rfl) (by rfl) (by rfl) ?_
      refine WL.skip (d := 14) (by rfl) (by rfl) (by rfl) (by rfl) ?_
      refine WL.skip (d := 14) (by rfl) (by rfl) (by rfl) (by rfl) ?_
      refine WL.p (by rfl) (Yl.pickF (by rfl) (by rfl)) ?_
      refine WL.p (by rfl) (Yl.move (by rfl)) ?_
      refine WL.run (d := 20) (by rfl) (by rfl) ?_
      refine WL.p (by rfl) (Yl.move (by rfl)) ?_
      refine WL.run (d := 20) (by rfl) (by rfl) ?_
      refine WL.p (by rfl) (Yl.move (by rfl)) ?_
      refine WL.run (d := 20) (by rfl) (by rfl) ?_
      refine WL.p (by rfl) (Yl.index str9 (by rfl) (by rfl) (by rfl) (by first | assumption | exact List.getElem?_eq_getElem (by omega))) ?_
      refine WL.run (d := 20) (by rfl) (by rfl) ?_
      refine WL.p (by rfl) (Yl.geq (by rfl) (by rfl)) ?_
      refine WL.run (d := 20) (by rfl) (by rfl) ?_
      refine WL.p (by rfl) (Yl.move (by rfl)) ?_
      refine WL.split (d := 25) (by rfl) (fun h3 => ?_) (fun h3 => ?_)
      ·
        replace h3 := of_decide_eq_true h3
        refine WL.run (d := 25) (by rfl) (by rfl) ?_
        refine WL.p (by rfl) (Yl.move (by rfl)) ?_
        refine WL.run (d := 25) (by rfl) (by rfl) ?_
        refine WL.p (by rfl) (Yl.move (by rfl)) ?_
        refine WL.run (d := 25) (by rfl) (by rfl) ?_
        refine WL.p (by rfl) (Yl.index str9 (by rfl) (by rfl) (by rfl) (by first | assumption | exact List.getElem?_eq_getElem (by omega))) ?_
        refine WL.run (d := 25) (by rfl) (by rfl) ?_
        refine WL.p (by rfl) (Yl.leq (by rfl) (by rfl)) ?_
        refine WL.run (d := 20) (by rfl) (by rfl) ?_
        refine WL.p (by rfl) (Yl.pickT (by rfl) (by rfl)) ?_
        refine WL.p (by rfl) (Yl.pickF (by rfl) (by rfl)) ?_
        refine WL.p (by rfl) (Yl.move (by rfl)) ?_
        refine WL.split (d := 32) (by rfl) (fun h4 => ?_) (fun h4 => ?_)
        ·
          replace h4 := of_decide_eq_true h4
          refine WL.skip (d := 32) (by rfl) (by rfl) (by rfl) (by rfl) ?_
          refine WL.skip (d := 32) (by rfl) (by rfl) (by rfl) (by rfl) ?_
          refine WL.skip (d := 32) (by rfl) (by rfl) (by rfl) (by rfl) ?_
          refine WL.skip (d := 32) (by rfl) (by rfl) (by rfl) (by rfl) ?_
          refine WL.p (by rfl) (Yl.pickT (by rfl) (by rfl)) ?_
          refine WL.p (by rfl) (Yl.not (by rfl)) ?_
          refine WL.next ?_
          refine WC.condF (by rfl) ?_
          refine WC.skip ?_
          refine At.blocknormal ?_
          refine At.then_ ?_
          refine WC.region ?_
          refine WL.p (by rfl) (Yl.move (by rfl)) ?_
          refine WL.p (by rfl) (Yl.add (by rfl) (by rfl) (by omega)) ?_
          refine WL.p (by rfl) (Yl.assign (by rfl)) ?_
          refine WL.nil ?_
          refine At.roundC (k + 1) (hs.only (by repeat (first | exact Sel.nil | (apply Sel.cons; (repeat (first | exact Ext.here | apply Ext.there)))))) ⟨by rfl, trivial⟩ ⟨by rfl, trivial⟩ ?_ ?_
          ·
            omega
          ·
            rw [hJ]; simp [valueByte, lower, digit]; omega
        ·
          replace h4 := of_decide_eq_false h4
          refine WL.run (d := 32) (by rfl) (by rfl) ?_
          refine WL.p (by rfl) (Yl.move (by rfl)) ?_
          refine WL.run (d := 32) (by rfl) (by rfl) ?_
          refine WL.p (by rfl) (Yl.move (by rfl)) ?_
          refine WL.run (d := 32) (by rfl) (by rfl) ?_
          refine WL.p (by rfl) (Yl.index str9 (by rfl) (by rfl) (by rfl) (by first | assumption | exact List.getElem?_eq_getElem (by omega))) ?_
          refine WL.run (d := 32) (by rfl) (by rfl) ?_
          refine WL.p (by rfl) (Yl.eqi (by rfl) (by rfl)) ?_
          refine WL.p (by rfl) (Yl.pickF (by rfl) (by rfl)) ?_
          refine WL.p (by rfl) (Yl.not (by rfl)) ?_
          refine WL.next ?_
          refine WC.condS (by rfl) (fun h5 => ?_) (fun h5 => ?_)
          ·
            replace h5 := not_eq_true h5
            replace h5 := of_decide_eq_false h5
            refine WC.seq ?_
            refine WL.p (by rfl) (Yl.assign (by rfl)) ?_
            refine WL.next ?_
            refine WC.ret ?_
            refine At.blockret ?_
            refine At.thenret ?_
            refine At.thenret ?_
            refine At.blockret ?_
            refine At.thenret ?_
            refine fin1' rfl (by rfl) ?_
            refine RetP.mk hs ?_
            first
              | (simp [isValue, hJ, valueByte, lower, digit]; done)
              | (simp [isValue, hJ, valueByte, lower, digit]; omega)
              | simp_all [isValue, hJ, valueByte, lower, digit]
          ·
            replace h5 := not_eq_false h5
            replace h5 := of_decide_eq_true h5
            refine WC.skip ?_
            refine At.blocknormal ?_
            refine At.then_ ?_
            refine WC.region ?_
            refine WL.p (by rfl) (Yl.move (by rfl)) ?_
            refine WL.p (by rfl) (Yl.add (by rfl) (by rfl) (by omega)) ?_
            refine WL.p (by rfl) (Yl.assign (by rfl)) ?_
            refine WL.nil ?_
            refine At.roundC (k + 1) (hs.only (by repeat (first | exact Sel.nil | (apply Sel.cons; (repeat (first | exact Ext.here | apply Ext.there)))))) ⟨by rfl, trivial⟩ ⟨by rfl, trivial⟩ ?_ ?_
            ·
              omega
            ·
              rw [hJ]; simp [valueByte, lower, digit]; omega
      ·
        replace h3 := of_decide_eq_false h3
        refine WL.skip (d := 25) (by rfl) (by rfl) (by rfl) (by rfl) ?_
        refine WL.skip (d := 25) (by rfl) (by rfl) (by rfl) (by rfl) ?_
        refine WL.skip (d := 25) (by rfl) (by rfl) (by rfl) (by rfl) ?_
        refine WL.skip (d := 25) (by rfl) (by rfl) (by rfl) (by rfl) ?_
        refine WL.run (d := 20) (by rfl) (by rfl) ?_
        refine WL.p (by rfl) (Yl.pickF (by rfl) (by rfl)) ?_
        refine WL.p (by rfl) (Yl.pickF (by rfl) (by rfl)) ?_
        refine WL.p (by rfl) (Yl.move (by rfl)) ?_
        refine WL.run (d := 32) (by rfl) (by rfl) ?_
        refine WL.p (by rfl) (Yl.move (by rfl)) ?_
        refine WL.run (d := 32) (by rfl) (by rfl) ?_
        refine WL.p (by rfl) (Yl.move (by rfl)) ?_
        refine WL.run (d := 32) (by rfl) (by rfl) ?_
        refine WL.p (by rfl) (Yl.index str9 (by rfl) (by rfl) (by rfl) (by first | assumption | exact List.getElem?_eq_getElem (by omega))) ?_
        refine WL.run (d := 32) (by rfl) (by rfl) ?_
        refine WL.p (by rfl) (Yl.eqi (by rfl) (by rfl)) ?_
        refine WL.p (by rfl) (Yl.pickF (by rfl) (by rfl)) ?_
        refine WL.p (by rfl) (Yl.not (by rfl)) ?_
        refine WL.next ?_
        refine WC.condS (by rfl) (fun h4 => ?_) (fun h4 => ?_)
        ·
          replace h4 := not_eq_true h4
          replace h4 := of_decide_eq_false h4
          refine WC.seq ?_
          refine WL.p (by rfl) (Yl.assign (by rfl)) ?_
          refine WL.next ?_
          refine WC.ret ?_
          refine At.blockret ?_
          refine At.thenret ?_
          refine At.thenret ?_
          refine At.blockret ?_
          refine At.thenret ?_
          refine fin1' rfl (by rfl) ?_
          refine RetP.mk hs ?_
          first
            | (simp [isValue, hJ, valueByte, lower, digit]; done)
            | (simp [isValue, hJ, valueByte, lower, digit]; omega)
            | simp_all [isValue, hJ, valueByte, lower, digit]
        ·
          replace h4 := not_eq_false h4
          replace h4 := of_decide_eq_true h4
          refine WC.skip ?_
          refine At.blocknormal ?_
          refine At.then_ ?_
          refine WC.region ?_
          refine WL.p (by rfl) (Yl.move (by rfl)) ?_
          refine WL.p (by rfl) (Yl.add (by rfl) (by rfl) (by omega)) ?_
          refine WL.p (by rfl) (Yl.assign (by rfl)) ?_
          refine WL.nil ?_
          refine At.roundC (k + 1) (hs.only (by repeat (first | exact Sel.nil | (apply Sel.cons; (repeat (first | exact Ext.here | apply Ext.there)))))) ⟨by rfl, trivial⟩ ⟨by rfl, trivial⟩ ?_ ?_
          ·
            omega
          ·
            rw [hJ]; simp [valueByte, lower, digit]; omega
  ·
    replace h1 := of_decide_eq_false h1
    rw [drop_out (l := s) (by omega)] at hJ
    refine WC.exit ?_
    refine At.thenexit ?_
    refine At.thenexit ?_
    refine At.blockexit ?_
    refine At.then_ ?_
    refine WC.seq ?_
    refine WL.p (by rfl) (Yl.move (by rfl)) ?_
    refine WL.p (by rfl) (Yl.len_str str9 (by rfl)) ?_
    refine WL.callp hs (by rfl) (Yc.func (by rfl) fn90) (c_impl_InRange _ _ _ _) ?_
    clear hs; intro w hs
    refine WL.p (by rfl) (Yl.assign (by rfl)) ?_
    refine WL.next ?_
    refine WC.ret ?_
    refine fin1' rfl (by rfl) ?_
    refine RetP.mk hs ?_
    first
      | (simp [isValue, hJ, valueByte, lower, digit]; done)
      | (simp [isValue, hJ, valueByte, lower, digit]; omega)
      | simp_all [isValue, hJ, valueByte, lower, digit]

theorem c_impl_IsRequest (r : TRequest) (w : World) (h_r : Ph.ok w r)  : Calls Tryz.prog 162 [.agg #[I r.kind, S r.to.host, S r.to.path, S r.frm, S r.digest]].toArray w (RetP w (Bo (r.is))) := by
  refine enterN 26 Tryz.func162 rfl rfl rfl ?_
  have hs := Sat.start w
  refine WC.seq ?_
  refine WL.r (by rfl) (Yr.box hs (by rfl) (by rfl)) ?_
  clear hs; rintro _ w ⟨b1, rfl, hb, hs⟩; clear hb
  refine WL.p (by rfl) (Yl.assign (by rfl)) ?_
  refine WL.next ?_
  refine WC.seq ?_
  refine WL.p (by rfl) (Yl.fieldAddr fa66_0 (by rfl)) ?_
  refine WL.p (by rfl) (Yl.loadB sca3 (by rfl) hs (by repeat (first | exact List.mem_cons_self | apply List.mem_cons_of_mem)) (by rfl)) ?_
  refine WL.callp hs (by rfl) (Yc.func (by rfl) fn90) (c_impl_InRange _ _ _ _) ?_
  clear hs; intro w hs
  refine WL.p (by rfl) (Yl.move (by rfl)) ?_
  refine WL.split (d := 6) (by rfl) (fun h1 => ?_) (fun h1 => ?_)
  ·
    replace h1 := inR_true.1 h1
    refine WL.run (d := 6) (by rfl) (by rfl) ?_
    refine WL.p (by rfl) (Yl.fieldAddr fa66_1 (by rfl)) ?_
    refine WL.run (d := 6) (by rfl) (by rfl) ?_
    refine WL.p (by rfl) (Yl.loadAB agg45 (by rfl) hs (by repeat (first | exact List.mem_cons_self | apply List.mem_cons_of_mem)) (by rfl) (by rfl)) ?_
    refine WL.run (d := 6) (by rfl) (by rfl) ?_
    refine WL.callp hs (by rfl) (Yc.func (by rfl) fn72) (c_impl_IsAddr _ _ ⟨(Ph.old h_r.to.host hs), (Ph.old h_r.to.path hs)⟩) ?_
    clear hs; intro w hs
    refine WL.p (by rfl) (Yl.pickT (by rfl) (by rfl)) ?_
    refine WL.p (by rfl) (Yl.move (by rfl)) ?_
    refine WL.split (d := 11) (by rfl) (fun h2 => ?_) (fun h2 => ?_)
    ·
      refine WL.run (d := 11) (by rfl) (by rfl) ?_
      refine WL.p (by rfl) (Yl.fieldAddr fa66_2 (by rfl)) ?_
      refine WL.run (d := 11) (by rfl) (by rfl) ?_
      refine WL.p (by rfl) (Yl.loadB sca9 (by rfl) hs (by repeat (first | exact List.mem_cons_self | apply List.mem_cons_of_mem)) (by rfl)) ?_
      refine WL.run (d := 11) (by rfl) (by rfl) ?_
      refine WL.callp hs (by rfl) (Yc.func (by rfl) fn115) (c_impl_IsName _ _ (Ph.old h_r.frm hs)) ?_
      clear hs; intro w hs
      refine WL.p (by rfl) (Yl.pickT (by rfl) (by rfl)) ?_
      refine WL.p (by rfl) (Yl.move (by rfl)) ?_
      refine WL.split (d := 16) (by rfl) (fun h3 => ?_) (fun h3 => ?_)
      ·
        refine WL.run (d := 16) (by rfl) (by rfl) ?_
        refine WL.p (by rfl) (Yl.fieldAddr fa66_3 (by rfl)) ?_
        refine WL.run (d := 16) (by rfl) (by rfl) ?_
        refine WL.p (by rfl) (Yl.loadB sca9 (by rfl) hs (by repeat (first | exact List.mem_cons_self | apply List.mem_cons_of_mem)) (by rfl)) ?_
        refine WL.run (d := 16) (by rfl) (by rfl) ?_
        refine WL.p (by rfl) (Yl.eqs (by rfl) (by rfl)) ?_
        refine WL.run (d := 16) (by rfl) (by rfl) ?_
        refine WL.p (by rfl) (Yl.move (by rfl)) ?_
        refine WL.split (d := 20) (by rfl) (fun h4 => ?_) (fun h4 => ?_)
        ·
          replace h4 := of_decide_eq_true h4
          refine WL.skip (d := 20) (by rfl) (by rfl) (by rfl) (by rfl) ?_
          refine WL.skip (d := 20) (by rfl) (by rfl) (by rfl) (by rfl) ?_
          refine WL.skip (d := 20) (by rfl) (by rfl) (by rfl) (by rfl) ?_
          refine WL.run (d := 16) (by rfl) (by rfl) ?_
          refine WL.p (by rfl) (Yl.pickT (by rfl) (by rfl)) ?_
          refine WL.p (by rfl) (Yl.pickT (by rfl) (by rfl)) ?_
          refine WL.p (by rfl) (Yl.assign (by rfl)) ?_
          refine WL.next ?_
          refine WC.ret ?_
          refine fin1' rfl (by rfl) ?_
          refine RetP.mk hs ?_
          first
            | (rw [← inR_true] at h1; simp_all [TRequest.is]; done)
            | (rw [← inR_false] at h1; simp_all [TRequest.is])
        ·
          replace h4 := of_decide_eq_false h4
          refine WL.run (d := 20) (by rfl) (by rfl) ?_
          refine WL.p (by rfl) (Yl.fieldAddr fa66_3 (by rfl)) ?_
          refine WL.run (d := 20) (by rfl) (by rfl) ?_
          refine WL.p (by rfl) (Yl.loadB sca9 (by rfl) hs (by repeat (first | exact List.mem_cons_self | apply List.mem_cons_of_mem)) (by rfl)) ?_
          refine WL.run (d := 20) (by rfl) (by rfl) ?_
          refine WL.callp hs (by rfl) (Yc.func (by rfl) fn196) (c_impl_IsValue _ _ (Ph.old h_r.digest hs)) ?_
          clear hs; intro w hs
          refine WL.run (d := 16) (by rfl) (by rfl) ?_
          refine WL.p (by rfl) (Yl.pickF (by rfl) (by rfl)) ?_
          refine WL.p (by rfl) (Yl.pickT (by rfl) (by rfl)) ?_
          refine WL.p (by rfl) (Yl.assign (by rfl)) ?_
          refine WL.next ?_
          refine WC.ret ?_
          refine fin1' rfl (by rfl) ?_
          refine RetP.mk hs ?_
          first
            | (rw [← inR_true] at h1; simp_all [TRequest.is]; done)
            | (rw [← inR_false] at h1; simp_all [TRequest.is])
      ·
        refine WL.skip (d := 16) (by rfl) (by rfl) (by rfl) (by rfl) ?_
        refine WL.skip (d := 16) (by rfl) (by rfl) (by rfl) (by rfl) ?_
        refine WL.skip (d := 16) (by rfl) (by rfl) (by rfl) (by rfl) ?_
        refine WL.skip (d := 16) (by rfl) (by rfl) (by rfl) (by rfl) ?_
        refine WL.skipU (d := 20) (by rfl) (by rfl) (by rfl) ?_
        refine WL.skipU (d := 20) (by rfl) (by rfl) (by rfl) ?_
        refine WL.skipU (d := 20) (by rfl) (by rfl) (by rfl) ?_
        refine WL.skip (d := 16) (by rfl) (by rfl) (by rfl) (by rfl) ?_
        refine WL.p (by rfl) (Yl.pickF (by rfl) (by rfl)) ?_
        refine WL.p (by rfl) (Yl.assign (by rfl)) ?_
        refine WL.next ?_
        refine WC.ret ?_
        refine fin1' rfl (by rfl) ?_
        refine RetP.mk hs ?_
        first
          | (rw [← inR_true] at h1; simp_all [TRequest.is]; done)
          | (rw [← inR_false] at h1; simp_all [TRequest.is])
    ·
      refine WL.skip (d := 11) (by rfl) (by rfl) (by rfl) (by rfl) ?_
      refine WL.skip (d := 11) (by rfl) (by rfl) (by rfl) (by rfl) ?_
      refine WL.skip (d := 11) (by rfl) (by rfl) (by rfl) (by rfl) ?_
      refine WL.p (by rfl) (Yl.pickF (by rfl) (by rfl)) ?_
      refine WL.p (by rfl) (Yl.move (by rfl)) ?_
      refine WL.skip (d := 16) (by rfl) (by rfl) (by rfl) (by rfl) ?_
      refine WL.skip (d := 16) (by rfl) (by rfl) (by rfl) (by rfl) ?_
      refine WL.skip (d := 16) (by rfl) (by rfl) (by rfl) (by rfl) ?_
      refine WL.skip (d := 16) (by rfl) (by rfl) (by rfl) (by rfl) ?_
      refine WL.skipU (d := 20) (by rfl) (by rfl) (by rfl) ?_
      refine WL.skipU (d := 20) (by rfl) (by rfl) (by rfl) ?_
      refine WL.skipU (d := 20) (by rfl) (by rfl) (by rfl) ?_
      refine WL.skip (d := 16) (by rfl) (by rfl) (by rfl) (by rfl) ?_
      refine WL.p (by rfl) (Yl.pickF (by rfl) (by rfl)) ?_
      refine WL.p (by rfl) (Yl.assign (by rfl)) ?_
      refine WL.next ?_
      refine WC.ret ?_
      refine fin1' rfl (by rfl) ?_
      refine RetP.mk hs ?_
      first
        | (rw [← inR_true] at h1; simp_all [TRequest.is]; done)
        | (rw [← inR_false] at h1; simp_all [TRequest.is])
  ·
    replace h1 := inR_false.1 h1
    refine WL.skip (d := 6) (by rfl) (by rfl) (by rfl) (by rfl) ?_
    refine WL.skip (d := 6) (by rfl) (by rfl) (by rfl) (by rfl) ?_
    refine WL.skip (d := 6) (by rfl) (by rfl) (by rfl) (by rfl) ?_
    refine WL.p (by rfl) (Yl.pickF (by rfl) (by rfl)) ?_
    refine WL.p (by rfl) (Yl.move (by rfl)) ?_
    refine WL.skip (d := 11) (by rfl) (by rfl) (by rfl) (by rfl) ?_
    refine WL.skip (d := 11) (by rfl) (by rfl) (by rfl) (by rfl) ?_
    refine WL.skip (d := 11) (by rfl) (by rfl) (by rfl) (by rfl) ?_
    refine WL.p (by rfl) (Yl.pickF (by rfl) (by rfl)) ?_
    refine WL.p (by rfl) (Yl.move (by rfl)) ?_
    refine WL.skip (d := 16) (by rfl) (by rfl) (by rfl) (by rfl) ?_
    refine WL.skip (d := 16) (by rfl) (by rfl) (by rfl) (by rfl) ?_
    refine WL.skip (d := 16) (by rfl) (by rfl) (by rfl) (by rfl) ?_
    refine WL.skip (d := 16) (by rfl) (by rfl) (by rfl) (by rfl) ?_
    refine WL.skipU (d := 20) (by rfl) (by rfl) (by rfl) ?_
    refine WL.skipU (d := 20) (by rfl) (by rfl) (by rfl) ?_
    refine WL.skipU (d := 20) (by rfl) (by rfl) (by rfl) ?_
    refine WL.skip (d := 16) (by rfl) (by rfl) (by rfl) (by rfl) ?_
    refine WL.p (by rfl) (Yl.pickF (by rfl) (by rfl)) ?_
    refine WL.p (by rfl) (Yl.assign (by rfl)) ?_
    refine WL.next ?_
    refine WC.ret ?_
    refine fin1' rfl (by rfl) ?_
    refine RetP.mk hs ?_
    first
      | (rw [← inR_true] at h1; simp_all [TRequest.is]; done)
      | (rw [← inR_false] at h1; simp_all [TRequest.is])

theorem c_slices_Index___string_string_ (s : (Sl Str)) (v : Str) (w : World) (h_s : Ph.ok w s)  : Calls Tryz.prog 219 [Sl.v s, S v].toArray w (RetP w (I (idxF (fun x => decide (v = x)) s.l 0))) := by
  have hw := h_s.lt
  refine enterN 19 Tryz.func219 rfl rfl rfl ?_
  have hs := Sat.start w
  refine WC.seq ?_
  refine WL.p (by rfl) (Yl.assign (by rfl)) ?_
  refine WL.next ?_
  refine WC.seq' ?_
  refine WC.seq ?_
  refine WL.p (by rfl) (Yl.move (by rfl)) ?_
  refine WL.p (by rfl) (Yl.len_sl slu53 (by rfl)) ?_
  refine WL.p (by rfl) (Yl.move (by rfl)) ?_
  refine WL.next ?_
  refine WC.block ?_
  refine WC.loopC (ι := Nat) (fun k => s.l.length - k) (fun k => [(8, I (k : Int))]) (fun _ => []) (fun k => idxF (fun x => decide (v = x)) s.l 0 = idxF (fun x => decide (v = x)) (s.l.drop k) k) [(0, _), (1, _), (6, _), (7, _)] 0 (hs) ⟨by rfl, by rfl, by rfl, by rfl, trivial⟩ ⟨by rfl, trivial⟩ ?_ ?_
  ·
    simp
  clear hs; rintro k w hJ hs
  simp only [List.nil_append] at hs
  refine WC.seq ?_
  refine WL.p (by rfl) (Yl.lss (by rfl) (by rfl)) ?_
  refine WL.next ?_
  refine WC.seq' ?_
  refine WC.condS (by rfl) (fun h1 => ?_) (fun h1 => ?_)
  ·
    replace h1 := of_decide_eq_true h1
    obtain ⟨d, hd⟩ := exists_get (l := s.l) (k := k) (by omega)
    rw [drop_cons hd] at hJ
    refine WC.skipn ?_
    refine WC.seq' ?_
    refine WC.block ?_
    refine WC.seq ?_
    refine WL.p (by rfl) (Yl.move (by rfl)) ?_
    refine WL.p (by rfl) (Yl.assign (by rfl)) ?_
    refine WL.next ?_
    refine WC.seq ?_
    refine WL.p (by rfl) (Yl.move (by rfl)) ?_
    refine WL.p (by rfl) (Yl.move (by rfl)) ?_
    refine WL.p (by rfl) (Yl.move (by rfl)) ?_
    refine WL.p (by rfl) (Yl.indexAddr slt53 (by rfl) (by rfl) (Ph.old h_s hs) (by rfl) (hd)) ?_
    refine WL.p (by rfl) (Yl.loadC0 sca9 (by rfl) (Sl.Ok.at_ (Ph.old h_s hs) (by assumption)).2 (by rfl)) ?_
    refine WL.p (by rfl) (Yl.eqs (by rfl) (by rfl)) ?_
    refine WL.next ?_
    refine WC.condS (by rfl) (fun h2 => ?_) (fun h2 => ?_)
    ·
      replace h2 := of_decide_eq_true h2
      refine WC.seq ?_
      refine WL.p (by rfl) (Yl.move (by rfl)) ?_
      refine WL.p (by rfl) (Yl.assign (by rfl)) ?_
      refine WL.next ?_
      refine WC.ret ?_
      refine At.blockret ?_
      refine At.thenret ?_
      refine At.thenret ?_
      refine At.blockret ?_
      refine At.thenret ?_
      refine fin1' rfl (by rfl) ?_
      refine RetP.mk hs ?_
      rw [hJ]; simp_all [idxF]
    ·
      replace h2 := of_decide_eq_false h2
      refine WC.skip ?_
      refine At.blocknormal ?_
      refine At.then_ ?_
      refine WC.region ?_
      refine WL.p (by rfl) (Yl.add (by rfl) (by rfl) (by omega)) ?_
      refine WL.p (by rfl) (Yl.move (by rfl)) ?_
      refine WL.nil ?_
      refine At.roundC (k + 1) (hs.only (by repeat (first | exact Sel.nil | (apply Sel.cons; (repeat (first | exact Ext.here | apply Ext.there)))))) ⟨by rfl, by rfl, by rfl, by rfl, trivial⟩ ⟨by rfl, trivial⟩ ?_ ?_
      ·
        omega
      ·
        rw [hJ]; simp_all [idxF]
  ·
    replace h1 := of_decide_eq_false h1
    rw [drop_out (l := s.l) (by omega)] at hJ
    refine WC.exit ?_
    refine At.thenexit ?_
    refine At.thenexit ?_
    refine At.blockexit ?_
    refine At.then_ ?_
    refine WC.seq ?_
    refine WL.p (by rfl) (Yl.assign (by rfl)) ?_
    refine WL.next ?_
    refine WC.ret ?_
    refine fin1' rfl (by rfl) ?_
    refine RetP.mk hs ?_
    rw [hJ]; simp_all [idxF]

theorem c_slices_Contains___string_string_ (s : (Sl Str)) (v : Str) (w : World) (h_s : Ph.ok w s)  : Calls Tryz.prog 197 [Sl.v s, S v].toArray w (RetP w (Bo (decide (v ∈ s.l)))) := by
  refine enterN 9 Tryz.func197 rfl rfl rfl ?_
  have hs := Sat.start w
  refine WC.seq ?_
  refine WL.p (by rfl) (Yl.assign (by rfl)) ?_
  refine WL.next ?_
  refine WC.seq ?_
  refine WL.p (by rfl) (Yl.move (by rfl)) ?_
  refine WL.p (by rfl) (Yl.move (by rfl)) ?_
  refine WL.callp hs (by rfl) (Yc.func (by rfl) fn219) (c_slices_Index___string_string_ _ _ _ (Ph.old h_s hs)) ?_
  clear hs; intro w hs
  refine WL.p (by rfl) (Yl.geq (by rfl) (by rfl)) ?_
  refine WL.p (by rfl) (Yl.assign (by rfl)) ?_
  refine WL.next ?_
  refine WC.ret ?_
  refine fin1' rfl (by rfl) ?_
  refine RetP.mk hs ?_
  simp only [ge_iff_le, idxF_any, any_mem]

theorem c_impl_Allows (p : PPolicy) (kind : Int) (host : Str) (w : World) (h_p : Ph.ok w p)  : Calls Tryz.prog 163 [.agg #[Bo p.set, Sl.v p.scripts, Sl.v p.styles, Sl.v p.images, S p.nonce], I kind, S host].toArray w (RetP w (Bo (p.lg.allows kind host))) := by
  refine enterN 30 Tryz.func163 rfl rfl rfl ?_
  have hs := Sat.start w
  refine WC.seq ?_
  refine WL.r (by rfl) (Yr.box hs (by rfl) (by rfl)) ?_
  clear hs; rintro _ w ⟨b1, rfl, hb, hs⟩; clear hb
  refine WL.p (by rfl) (Yl.assign (by rfl)) ?_
  refine WL.next ?_
  refine WC.seq' ?_
  refine WC.seq ?_
  refine WL.p (by rfl) (Yl.fieldAddr fa63_0 (by rfl)) ?_
  refine WL.p (by rfl) (Yl.loadB sca4 (by rfl) hs (by repeat (first | exact List.mem_cons_self | apply List.mem_cons_of_mem)) (by rfl)) ?_
  refine WL.p (by rfl) (Yl.not (by rfl)) ?_
  refine WL.next ?_
  refine WC.condS (by rfl) (fun h1 => ?_) (fun h1 => ?_)
  ·
    replace h1 := not_eq_true h1
    refine WC.seq ?_
    refine WL.p (by rfl) (Yl.assign (by rfl)) ?_
    refine WL.next ?_
    refine WC.ret ?_
    refine At.thenret ?_
    refine fin1' rfl (by rfl) ?_
    refine RetP.mk hs ?_
    simp_all [TPolicy.allows]
  ·
    replace h1 := not_eq_false h1
    refine WC.skipn ?_
    refine WC.seq' ?_
    refine WC.seq ?_
    refine WL.p (by rfl) (Yl.move (by rfl)) ?_
    refine WL.next ?_
    refine WC.block ?_
    refine WC.seq' ?_
    refine WC.seq ?_
    refine WL.p (by rfl) (Yl.eqi (by rfl) (by rfl)) ?_
    refine WL.p (by rfl) (Yl.assign (by rfl)) ?_
    refine WL.next ?_
    refine WC.condS (by rfl) (fun h2 => ?_) (fun h2 => ?_)
    ·
      replace h2 := of_decide_eq_true h2
      refine WC.skipn ?_
      refine WC.condT (by rfl) ?_
      refine WC.seq ?_
      refine WL.p (by rfl) (Yl.fieldAddr fa63_1 (by rfl)) ?_
      refine WL.p (by rfl) (Yl.loadB sca53 (by rfl) hs (by repeat (first | exact List.mem_cons_self | apply List.mem_cons_of_mem)) (by rfl)) ?_
      refine WL.p (by rfl) (Yl.move (by rfl)) ?_
      refine WL.callp hs (by rfl) (Yc.func (by rfl) fn197) (c_slices_Contains___string_string_ _ _ _ (Ph.old h_p.scripts hs)) ?_
      clear hs; intro w hs
      refine WL.p (by rfl) (Yl.assign (by rfl)) ?_
      refine WL.next ?_
      refine WC.ret ?_
      refine At.blockret ?_
      refine At.thenret ?_
      refine fin1' rfl (by rfl) ?_
      refine RetP.mk hs ?_
      simp_all [TPolicy.allows]
    ·
      replace h2 := of_decide_eq_false h2
      refine WC.region ?_
      refine WL.p (by rfl) (Yl.eqi (by rfl) (by rfl)) ?_
      refine WL.p (by rfl) (Yl.assign (by rfl)) ?_
      refine WL.nil ?_
      refine At.then_ ?_
      refine WC.condS (by rfl) (fun h3 => ?_) (fun h3 => ?_)
      ·
        replace h3 := of_decide_eq_true h3
        refine WC.seq ?_
        refine WL.p (by rfl) (Yl.fieldAddr fa63_1 (by rfl)) ?_
        refine WL.p (by rfl) (Yl.loadB sca53 (by rfl) hs (by repeat (first | exact List.mem_cons_self | apply List.mem_cons_of_mem)) (by rfl)) ?_
        refine WL.p (by rfl) (Yl.move (by rfl)) ?_
        refine WL.callp hs (by rfl) (Yc.func (by rfl) fn197) (c_slices_Contains___string_string_ _ _ _ (Ph.old h_p.scripts hs)) ?_
        clear hs; intro w hs
        refine WL.p (by rfl) (Yl.assign (by rfl)) ?_
        refine WL.next ?_
        refine WC.ret ?_
        refine At.blockret ?_
        refine At.thenret ?_
        refine fin1' rfl (by rfl) ?_
        refine RetP.mk hs ?_
        simp_all [TPolicy.allows]
      ·
        replace h3 := of_decide_eq_false h3
        refine WC.seq ?_
        refine WL.p (by rfl) (Yl.eqi (by rfl) (by rfl)) ?_
        refine WL.p (by rfl) (Yl.assign (by rfl)) ?_
        refine WL.next ?_
        refine WC.condS (by rfl) (fun h4 => ?_) (fun h4 => ?_)
        ·
          replace h4 := of_decide_eq_true h4
          refine WC.seq ?_
          refine WL.p (by rfl) (Yl.fieldAddr fa63_2 (by rfl)) ?_
          refine WL.p (by rfl) (Yl.loadB sca53 (by rfl) hs (by repeat (first | exact List.mem_cons_self | apply List.mem_cons_of_mem)) (by rfl)) ?_
          refine WL.p (by rfl) (Yl.move (by rfl)) ?_
          refine WL.callp hs (by rfl) (Yc.func (by rfl) fn197) (c_slices_Contains___string_string_ _ _ _ (Ph.old h_p.styles hs)) ?_
          clear hs; intro w hs
          refine WL.p (by rfl) (Yl.assign (by rfl)) ?_
          refine WL.next ?_
          refine WC.ret ?_
          refine At.blockret ?_
          refine At.thenret ?_
          refine fin1' rfl (by rfl) ?_
          refine RetP.mk hs ?_
          simp_all [TPolicy.allows]
        ·
          replace h4 := of_decide_eq_false h4
          refine WC.seq ?_
          refine WL.p (by rfl) (Yl.eqi (by rfl) (by rfl)) ?_
          refine WL.p (by rfl) (Yl.assign (by rfl)) ?_
          refine WL.next ?_
          refine WC.condS (by rfl) (fun h5 => ?_) (fun h5 => ?_)
          ·
            replace h5 := of_decide_eq_true h5
            refine WC.seq ?_
            refine WL.p (by rfl) (Yl.fieldAddr fa63_3 (by rfl)) ?_
            refine WL.p (by rfl) (Yl.loadB sca53 (by rfl) hs (by repeat (first | exact List.mem_cons_self | apply List.mem_cons_of_mem)) (by rfl)) ?_
            refine WL.p (by rfl) (Yl.move (by rfl)) ?_
            refine WL.callp hs (by rfl) (Yc.func (by rfl) fn197) (c_slices_Contains___string_string_ _ _ _ (Ph.old h_p.images hs)) ?_
            clear hs; intro w hs
            refine WL.p (by rfl) (Yl.assign (by rfl)) ?_
            refine WL.next ?_
            refine WC.ret ?_
            refine At.blockret ?_
            refine At.thenret ?_
            refine fin1' rfl (by rfl) ?_
            refine RetP.mk hs ?_
            simp_all [TPolicy.allows]
          ·
            replace h5 := of_decide_eq_false h5
            refine WC.skip ?_
            refine At.blocknormal ?_
            refine At.then_ ?_
            refine WC.seq ?_
            refine WL.p (by rfl) (Yl.assign (by rfl)) ?_
            refine WL.next ?_
            refine WC.ret ?_
            refine fin1' rfl (by rfl) ?_
            refine RetP.mk hs ?_
            simp_all [TPolicy.allows]

theorem c_impl_CheckRequest (p : PPolicy) (r : TRequest) (w : World) (h_p : Ph.ok w p) (h_r : Ph.ok w r)  : Calls Tryz.prog 97 [.agg #[Bo p.set, Sl.v p.scripts, Sl.v p.styles, Sl.v p.images, S p.nonce], .agg #[I r.kind, S r.to.host, S r.to.path, S r.frm, S r.digest]].toArray w (RetP w (I (checkReq p.lg r))) := by
  refine enterN 23 Tryz.func97 rfl rfl rfl ?_
  have hs := Sat.start w
  refine WC.seq ?_
  refine WL.r (by rfl) (Yr.box hs (by rfl) (by rfl)) ?_
  clear hs; rintro _ w ⟨b1, rfl, hb, hs⟩; clear hb
  refine WL.r (by rfl) (Yr.box hs (by rfl) (by rfl)) ?_
  clear hs; rintro _ w ⟨b2, rfl, hb, hs⟩; clear hb
  refine WL.p (by rfl) (Yl.assign (by rfl)) ?_
  refine WL.next ?_
  refine WC.seq' ?_
  refine WC.seq ?_
  refine WL.p (by rfl) (Yl.loadAB agg66 (by rfl) hs (by repeat (first | exact List.mem_cons_self | apply List.mem_cons_of_mem)) (by rfl) (by rfl)) ?_
  refine WL.callp hs (by rfl) (Yc.func (by rfl) fn162) (c_impl_IsRequest _ _ (Ph.old h_r hs)) ?_
  clear hs; intro w hs
  refine WL.p (by rfl) (Yl.not (by rfl)) ?_
  refine WL.p (by rfl) (Yl.move (by rfl)) ?_
  refine WL.split (d := 8) (by rfl) (fun h1 => ?_) (fun h1 => ?_)
  ·
    replace h1 := not_eq_true h1
    refine WL.skip (d := 8) (by rfl) (by rfl) (by rfl) (by rfl) ?_
    refine WL.skip (d := 8) (by rfl) (by rfl) (by rfl) (by rfl) ?_
    refine WL.skip (d := 8) (by rfl) (by rfl) (by rfl) (by rfl) ?_
    refine WL.skip (d := 8) (by rfl) (by rfl) (by rfl) (by rfl) ?_
    refine WL.skipU (d := 12) (by rfl) (by rfl) (by rfl) ?_
    refine WL.skipU (d := 12) (by rfl) (by rfl) (by rfl) ?_
    refine WL.skipU (d := 12) (by rfl) (by rfl) (by rfl) ?_
    refine WL.skipU (d := 12) (by rfl) (by rfl) (by rfl) ?_
    refine WL.skipU (d := 12) (by rfl) (by rfl) (by rfl) ?_
    refine WL.skipU (d := 12) (by rfl) (by rfl) (by rfl) ?_
    refine WL.skipU (d := 12) (by rfl) (by rfl) (by rfl) ?_
    refine WL.skipU (d := 12) (by rfl) (by rfl) (by rfl) ?_
    refine WL.skip (d := 8) (by rfl) (by rfl) (by rfl) (by rfl) ?_
    refine WL.p (by rfl) (Yl.pickT (by rfl) (by rfl)) ?_
    refine WL.next ?_
    refine WC.condT (by rfl) ?_
    refine WC.seq ?_
    refine WL.p (by rfl) (Yl.assign (by rfl)) ?_
    refine WL.next ?_
    refine WC.ret ?_
    refine At.thenret ?_
    refine fin1' rfl (by rfl) ?_
    refine RetP.mk hs ?_
    simp_all [checkReq]
  ·
    replace h1 := not_eq_false h1
    refine WL.run (d := 8) (by rfl) (by rfl) ?_
    refine WL.p (by rfl) (Yl.fieldAddr fa66_0 (by rfl)) ?_
    refine WL.run (d := 8) (by rfl) (by rfl) ?_
    refine WL.p (by rfl) (Yl.loadB sca3 (by rfl) hs (by repeat (first | exact List.mem_cons_self | apply List.mem_cons_of_mem)) (by rfl)) ?_
    refine WL.run (d := 8) (by rfl) (by rfl) ?_
    refine WL.p (by rfl) (Yl.nei (by rfl) (by rfl)) ?_
    refine WL.run (d := 8) (by rfl) (by rfl) ?_
    refine WL.p (by rfl) (Yl.move (by rfl)) ?_
    refine WL.split (d := 12) (by rfl) (fun h2 => ?_) (fun h2 => ?_)
    ·
      replace h2 := not_eq_true h2
      replace h2 := of_decide_eq_false h2
      refine WL.run (d := 12) (by rfl) (by rfl) ?_
      refine WL.p (by rfl) (Yl.loadAB agg63 (by rfl) hs (by repeat (first | exact List.mem_cons_self | apply List.mem_cons_of_mem)) (by rfl) (by rfl)) ?_
      refine WL.run (d := 12) (by rfl) (by rfl) ?_
      refine WL.p (by rfl) (Yl.fieldAddr fa66_0 (by rfl)) ?_
      refine WL.run (d := 12) (by rfl) (by rfl) ?_
      refine WL.p (by rfl) (Yl.loadB sca3 (by rfl) hs (by repeat (first | exact List.mem_cons_self | apply List.mem_cons_of_mem)) (by rfl)) ?_
      refine WL.run (d := 12) (by rfl) (by rfl) ?_
      refine WL.p (by rfl) (Yl.fieldAddr fa66_1 (by rfl)) ?_
      refine WL.run (d := 12) (by rfl) (by rfl) ?_
      refine WL.p (by rfl) (Yl.fieldAddr fa45_0 (by rfl)) ?_
      refine WL.run (d := 12) (by rfl) (by rfl) ?_
      refine WL.p (by rfl) (Yl.loadB sca9 (by rfl) hs (by repeat (first | exact List.mem_cons_self | apply List.mem_cons_of_mem)) (by rfl)) ?_
      refine WL.run (d := 12) (by rfl) (by rfl) ?_
      refine WL.callp hs (by rfl) (Yc.func (by rfl) fn163) (c_impl_Allows _ _ _ _ (Ph.old h_p hs)) ?_
      clear hs; intro w hs
      refine WL.run (d := 12) (by rfl) (by rfl) ?_
      refine WL.p (by rfl) (Yl.not (by rfl)) ?_
      refine WL.run (d := 8) (by rfl) (by rfl) ?_
      refine WL.p (by rfl) (Yl.pickT (by rfl) (by rfl)) ?_
      refine WL.p (by rfl) (Yl.pickF (by rfl) (by rfl)) ?_
      refine WL.next ?_
      refine WC.condS (by rfl) (fun h3 => ?_) (fun h3 => ?_)
      ·
        replace h3 := not_eq_true h3
        refine WC.seq ?_
        refine WL.p (by rfl) (Yl.assign (by rfl)) ?_
        refine WL.next ?_
        refine WC.ret ?_
        refine At.thenret ?_
        refine fin1' rfl (by rfl) ?_
        refine RetP.mk hs ?_
        simp_all [checkReq]
      ·
        replace h3 := not_eq_false h3
        refine WC.skipn ?_
        refine WC.seq ?_
        refine WL.p (by rfl) (Yl.assign (by rfl)) ?_
        refine WL.next ?_
        refine WC.ret ?_
        refine fin1' rfl (by rfl) ?_
        refine RetP.mk hs ?_
        simp_all [checkReq]
    ·
      replace h2 := not_eq_false h2
      replace h2 := of_decide_eq_true h2
      refine WL.skip (d := 12) (by rfl) (by rfl) (by rfl) (by rfl) ?_
      refine WL.skip (d := 12) (by rfl) (by rfl) (by rfl) (by rfl) ?_
      refine WL.skip (d := 12) (by rfl) (by rfl) (by rfl) (by rfl) ?_
      refine WL.skip (d := 12) (by rfl) (by rfl) (by rfl) (by rfl) ?_
      refine WL.skip (d := 12) (by rfl) (by rfl) (by rfl) (by rfl) ?_
      refine WL.skip (d := 12) (by rfl) (by rfl) (by rfl) (by rfl) ?_
      refine WL.skip (d := 12) (by rfl) (by rfl) (by rfl) (by rfl) ?_
      refine WL.skip (d := 12) (by rfl) (by rfl) (by rfl) (by rfl) ?_
      refine WL.run (d := 8) (by rfl) (by rfl) ?_
      refine WL.p (by rfl) (Yl.pickF (by rfl) (by rfl)) ?_
      refine WL.p (by rfl) (Yl.pickF (by rfl) (by rfl)) ?_
      refine WL.next ?_
      refine WC.condF (by rfl) ?_
      refine WC.skipn ?_
      refine WC.seq ?_
      refine WL.p (by rfl) (Yl.assign (by rfl)) ?_
      refine WL.next ?_
      refine WC.ret ?_
      refine fin1' rfl (by rfl) ?_
      refine RetP.mk hs ?_
      simp_all [checkReq]

theorem c_strings_Split (s : Str) (sep : Str) (w : World)  (h1 : s.length ≤ 2097152) (h2 : sep = [sep.headD 0]) (hm_ : ∃ m, w.cell? ⟨1, 0, none⟩ = some (.int .i64 m)) : Calls Tryz.prog 198 [S s, S sep].toArray w (Ret w (fun v w' => ∃ x : Sl Str, v = x.v ∧ x.l = splitC (sep.headD 0) s ∧ Fresh w x w')) := by
  rw [h2]; exact split_calls Tryz.strings_Split s (sep.headD 0) w h1 hm_

theorem c_strings_TrimPrefix (s : Str) (prefix_ : Str) (w : World)   : Calls Tryz.prog 199 [S s, S prefix_].toArray w (RetP w (S (if prefix_.isPrefixOf s then s.drop prefix_.length else s))) := by
  exact trim_calls Tryz.strings_TrimPrefix s prefix_ w

theorem c_slices_IndexFunc___string_string_ (s : (Sl Str)) (f : FuncId) (us_f : List Value) (p_f : Str → Bool) (w : World) (h_s : Ph.ok w s)  (hfn_f : FN Tryz.prog f) (hf_f : ∀ x ∈ s.l, ∀ w', Below w.heap.size w w' → Calls Tryz.prog f (([S x] : List Value) ++ us_f).toArray w' (RetP w' (Bo (p_f x)))) : Calls Tryz.prog 275 [Sl.v s, .func (.func f) #[] us_f.toArray].toArray w (RetP w (I (idxF (p_f) s.l 0))) := by
  have hw := h_s.lt
  refine enterN 19 Tryz.func275 rfl rfl rfl ?_
  have hs := Sat.start w
  refine WC.seq ?_
  refine WL.p (by rfl) (Yl.assign (by rfl)) ?_
  refine WL.next ?_
  refine WC.seq' ?_
  refine WC.seq ?_
  refine WL.p (by rfl) (Yl.move (by rfl)) ?_
  refine WL.p (by rfl) (Yl.len_sl slu53 (by rfl)) ?_
  refine WL.p (by rfl) (Yl.move (by rfl)) ?_
  refine WL.next ?_
  refine WC.block ?_
  refine WC.loopC (ι := Nat) (fun k => s.l.length - k) (fun k => [(8, I (k : Int))]) (fun _ => []) (fun k => idxF (p_f) s.l 0 = idxF (p_f) (s.l.drop k) k) [(0, _), (1, _), (6, _), (7, _)] 0 (hs) ⟨by rfl, by rfl, by rfl, by rfl, trivial⟩ ⟨by rfl, trivial⟩ ?_ ?_
  ·
    simp
  clear hs; rintro k w hJ hs
  simp only [List.nil_append] at hs
  refine WC.seq ?_
  refine WL.p (by rfl) (Yl.lss (by rfl) (by rfl)) ?_
  refine WL.next ?_
  refine WC.seq' ?_
  refine WC.condS (by rfl) (fun h1 => ?_) (fun h1 => ?_)
  ·
    replace h1 := of_decide_eq_true h1
    obtain ⟨d, hd⟩ := exists_get (l := s.l) (k := k) (by omega)
    rw [drop_cons hd] at hJ
    refine WC.skipn ?_
    refine WC.seq' ?_
    refine WC.block ?_
    refine WC.seq ?_
    refine WL.p (by rfl) (Yl.move (by rfl)) ?_
    refine WL.p (by rfl) (Yl.assign (by rfl)) ?_
    refine WL.next ?_
    refine WC.seq ?_
    refine WL.p (by rfl) (Yl.move (by rfl)) ?_
    refine WL.p (by rfl) (Yl.move (by rfl)) ?_
    refine WL.p (by rfl) (Yl.move (by rfl)) ?_
    refine WL.p (by rfl) (Yl.indexAddr slt53 (by rfl) (by rfl) (Ph.old h_s hs) (by rfl) (hd)) ?_
    refine WL.p (by rfl) (Yl.loadC0 sca9 (by rfl) (Sl.Ok.at_ (Ph.old h_s hs) (by assumption)).2 (by rfl)) ?_
    refine WL.callp hs (by rfl) (Yc.value (by rfl) (by rfl) hfn_f (by rfl)) (hf_f _ (List.mem_of_getElem? (by assumption)) _ hs.below) ?_
    clear hs; intro w hs
    refine WL.next ?_
    refine WC.condS (by rfl) (fun h2 => ?_) (fun h2 => ?_)
    ·
      refine WC.seq ?_
      refine WL.p (by rfl) (Yl.move (by rfl)) ?_
      refine WL.p (by rfl) (Yl.assign (by rfl)) ?_
      refine WL.next ?_
      refine WC.ret ?_
      refine At.blockret ?_
      refine At.thenret ?_
      refine At.thenret ?_
      refine At.blockret ?_
      refine At.thenret ?_
      refine fin1' rfl (by rfl) ?_
      refine RetP.mk hs ?_
      rw [hJ]; simp_all [idxF]
    ·
      refine WC.skip ?_
      refine At.blocknormal ?_
      refine At.then_ ?_
      refine WC.region ?_
      refine WL.p (by rfl) (Yl.add (by rfl) (by rfl) (by omega)) ?_
      refine WL.p (by rfl) (Yl.move (by rfl)) ?_
      refine WL.nil ?_
      refine At.roundC (k + 1) (hs.only (by repeat (first | exact Sel.nil | (apply Sel.cons; (repeat (first | exact Ext.here | apply Ext.there)))))) ⟨by rfl, by rfl, by rfl, by rfl, trivial⟩ ⟨by rfl, trivial⟩ ?_ ?_
      ·
        omega
      ·
        rw [hJ]; simp_all [idxF]
  ·
    replace h1 := of_decide_eq_false h1
    rw [drop_out (l := s.l) (by omega)] at hJ
    refine WC.exit ?_
    refine At.thenexit ?_
    refine At.thenexit ?_
    refine At.blockexit ?_
    refine At.then_ ?_
    refine WC.seq ?_
    refine WL.p (by rfl) (Yl.assign (by rfl)) ?_
    refine WL.next ?_
    refine WC.ret ?_
    refine fin1' rfl (by rfl) ?_
    refine RetP.mk hs ?_
    rw [hJ]; simp_all [idxF]

theorem c_slices_ContainsFunc___string_string_ (s : (Sl Str)) (f : FuncId) (us_f : List Value) (p_f : Str → Bool) (w : World) (h_s : Ph.ok w s)  (hfn_f : FN Tryz.prog f) (hf_f : ∀ x ∈ s.l, ∀ w', Below w.heap.size w w' → Calls Tryz.prog f (([S x] : List Value) ++ us_f).toArray w' (RetP w' (Bo (p_f x)))) : Calls Tryz.prog 255 [Sl.v s, .func (.func f) #[] us_f.toArray].toArray w (RetP w (Bo (s.l.any p_f))) := by
  refine enterN 9 Tryz.func255 rfl rfl rfl ?_
  have hs := Sat.start w
  refine WC.seq ?_
  refine WL.p (by rfl) (Yl.assign (by rfl)) ?_
  refine WL.next ?_
  refine WC.seq ?_
  refine WL.p (by rfl) (Yl.move (by rfl)) ?_
  refine WL.p (by rfl) (Yl.move (by rfl)) ?_
  refine WL.callp hs (by rfl) (Yc.func (by rfl) fn275) (c_slices_IndexFunc___string_string_ _ _ _ p_f _ (Ph.old h_s hs) hfn_f (fun x hx w1 hb1 => hf_f x hx w1 (hs.ext hb1).below)) ?_
  clear hs; intro w hs
  refine WL.p (by rfl) (Yl.geq (by rfl) (by rfl)) ?_
  refine WL.p (by rfl) (Yl.assign (by rfl)) ?_
  refine WL.next ?_
  refine WC.ret ?_
  refine fin1' rfl (by rfl) ?_
  refine RetP.mk hs ?_
  simp only [ge_iff_le, idxF_any]

theorem c_impl_areHosts_1 (s : Str) (w : World) (h_s : Ph.ok w s)  : Calls Tryz.prog 256 [S s].toArray w (RetP w (Bo (!isName s))) := by
  refine enterN 6 Tryz.func256 rfl rfl rfl ?_
  have hs := Sat.start w
  refine WC.seq ?_
  refine WL.p (by rfl) (Yl.assign (by rfl)) ?_
  refine WL.next ?_
  refine WC.seq ?_
  refine WL.p (by rfl) (Yl.move (by rfl)) ?_
  refine WL.callp hs (by rfl) (Yc.func (by rfl) fn115) (c_impl_IsName _ _ (Ph.old h_s hs)) ?_
  clear hs; intro w hs
  refine WL.p (by rfl) (Yl.not (by rfl)) ?_
  refine WL.p (by rfl) (Yl.assign (by rfl)) ?_
  refine WL.next ?_
  refine WC.ret ?_
  refine fin1' rfl (by rfl) ?_
  refine RetP.mk hs ?_
  simp_all

theorem c_impl_areHosts (l : (Sl Str)) (w : World) (h_l : Ph.ok w l)  : Calls Tryz.prog 237 [Sl.v l].toArray w (RetP w (Bo (hosts l.l))) := by
  have hw := h_l.lt
  refine enterN 11 Tryz.func237 rfl rfl rfl ?_
  have hs := Sat.start w
  refine WC.seq ?_
  refine WL.p (by rfl) (Yl.assign (by rfl)) ?_
  refine WL.next ?_
  refine WC.seq ?_
  refine WL.p (by rfl) (Yl.move (by rfl)) ?_
  refine WL.p (by rfl) (Yl.len_sl slu53 (by rfl)) ?_
  refine WL.p (by rfl) (Yl.leq (by rfl) (by rfl)) ?_
  refine WL.p (by rfl) (Yl.move (by rfl)) ?_
  refine WL.split (d := 6) (by rfl) (fun h1 => ?_) (fun h1 => ?_)
  ·
    replace h1 := of_decide_eq_true h1
    refine WL.run (d := 6) (by rfl) (by rfl) ?_
    refine WL.p (by rfl) (Yl.move (by rfl)) ?_
    refine WL.run (d := 6) (by rfl) (by rfl) ?_
    refine WL.callp hs (by rfl) (Yc.func (by rfl) fn255) (c_slices_ContainsFunc___string_string_ _ 256 _ (fun x => !isName x) _ (Ph.old h_l hs) fn256 (fun x hx w1 hb1 => c_impl_areHosts_1 x w1 (Ph.ext hb1 ((Ph.old h_l hs).elems x hx)))) ?_
    clear hs; intro w hs
    refine WL.run (d := 6) (by rfl) (by rfl) ?_
    refine WL.p (by rfl) (Yl.not (by rfl)) ?_
    refine WL.p (by rfl) (Yl.pickT (by rfl) (by rfl)) ?_
    refine WL.p (by rfl) (Yl.assign (by rfl)) ?_
    refine WL.next ?_
    refine WC.ret ?_
    refine fin1' rfl (by rfl) ?_
    refine RetP.mk hs ?_
    rw [any_not_all]
    simp [hosts]; omega
  ·
    replace h1 := of_decide_eq_false h1
    refine WL.skip (d := 6) (by rfl) (by rfl) (by rfl) (by rfl) ?_
    refine WL.skip (d := 6) (by rfl) (by rfl) (by rfl) (by rfl) ?_
    refine WL.skip (d := 6) (by rfl) (by rfl) (by rfl) (by rfl) ?_
    refine WL.p (by rfl) (Yl.pickF (by rfl) (by rfl)) ?_
    refine WL.p (by rfl) (Yl.assign (by rfl)) ?_
    refine WL.next ?_
    refine WC.ret ?_
    refine fin1' rfl (by rfl) ?_
    refine RetP.mk hs ?_
    simp [hosts]; omega

theorem c_impl_IsPolicy (p : PPolicy) (w : World) (h_p : Ph.ok w p)  : Calls Tryz.prog 222 [.agg #[Bo p.set, Sl.v p.scripts, Sl.v p.styles, Sl.v p.images, S p.nonce]].toArray w (RetP w (Bo (p.lg.is))) := by
  refine enterN 50 Tryz.func222 rfl rfl rfl ?_
  have hs := Sat.start w
  refine WC.seq ?_
  refine WL.r (by rfl) (Yr.box hs (by rfl) (by rfl)) ?_
  clear hs; rintro _ w ⟨b1, rfl, hb, hs⟩; clear hb
  refine WL.p (by rfl) (Yl.assign (by rfl)) ?_
  refine WL.next ?_
  refine WC.seq' ?_
  refine WC.seq ?_
  refine WL.p (by rfl) (Yl.fieldAddr fa63_0 (by rfl)) ?_
  refine WL.p (by rfl) (Yl.loadB sca4 (by rfl) hs (by repeat (first | exact List.mem_cons_self | apply List.mem_cons_of_mem)) (by rfl)) ?_
  refine WL.p (by rfl) (Yl.not (by rfl)) ?_
  refine WL.next ?_
  refine WC.condS (by rfl) (fun h1 => ?_) (fun h1 => ?_)
  ·
    replace h1 := not_eq_true h1
    refine WC.seq ?_
    refine WL.p (by rfl) (Yl.fieldAddr fa63_1 (by rfl)) ?_
    refine WL.p (by rfl) (Yl.loadB sca53 (by rfl) hs (by repeat (first | exact List.mem_cons_self | apply List.mem_cons_of_mem)) (by rfl)) ?_
    refine WL.p (by rfl) (Yl.len_sl slu53 (by rfl)) ?_
    refine WL.p (by rfl) (Yl.eqi (by rfl) (by rfl)) ?_
    refine WL.p (by rfl) (Yl.move (by rfl)) ?_
    refine WL.split (d := 10) (by rfl) (fun h2 => ?_) (fun h2 => ?_)
    ·
      replace h2 := of_decide_eq_true h2
      refine WL.run (d := 10) (by rfl) (by rfl) ?_
      refine WL.p (by rfl) (Yl.fieldAddr fa63_2 (by rfl)) ?_
      refine WL.run (d := 10) (by rfl) (by rfl) ?_
      refine WL.p (by rfl) (Yl.loadB sca53 (by rfl) hs (by repeat (first | exact List.mem_cons_self | apply List.mem_cons_of_mem)) (by rfl)) ?_
      refine WL.run (d := 10) (by rfl) (by rfl) ?_
      refine WL.p (by rfl) (Yl.len_sl slu53 (by rfl)) ?_
      refine WL.run (d := 10) (by rfl) (by rfl) ?_
      refine WL.p (by rfl) (Yl.eqi (by rfl) (by rfl)) ?_
      refine WL.p (by rfl) (Yl.pickT (by rfl) (by rfl)) ?_
      refine WL.p (by rfl) (Yl.move (by rfl)) ?_
      refine WL.split (d := 16) (by rfl) (fun h3 => ?_) (fun h3 => ?_)
      ·
        replace h3 := of_decide_eq_true h3
        refine WL.run (d := 16) (by rfl) (by rfl) ?_
        refine WL.p (by rfl) (Yl.fieldAddr fa63_3 (by rfl)) ?_
        refine WL.run (d := 16) (by rfl) (by rfl) ?_
        refine WL.p (by rfl) (Yl.loadB sca53 (by rfl) hs (by repeat (first | exact List.mem_cons_self | apply List.mem_cons_of_mem)) (by rfl)) ?_
        refine WL.run (d := 16) (by rfl) (by rfl) ?_
        refine WL.p (by rfl) (Yl.len_sl slu53 (by rfl)) ?_
        refine WL.run (d := 16) (by rfl) (by rfl) ?_
        refine WL.p (by rfl) (Yl.eqi (by rfl) (by rfl)) ?_
        refine WL.p (by rfl) (Yl.pickT (by rfl) (by rfl)) ?_
        refine WL.p (by rfl) (Yl.move (by rfl)) ?_
        refine WL.split (d := 22) (by rfl) (fun h4 => ?_) (fun h4 => ?_)
        ·
          replace h4 := of_decide_eq_true h4
          refine WL.run (d := 22) (by rfl) (by rfl) ?_
          refine WL.p (by rfl) (Yl.fieldAddr fa63_4 (by rfl)) ?_
          refine WL.run (d := 22) (by rfl) (by rfl) ?_
          refine WL.p (by rfl) (Yl.loadB sca9 (by rfl) hs (by repeat (first | exact List.mem_cons_self | apply List.mem_cons_of_mem)) (by rfl)) ?_
          refine WL.run (d := 22) (by rfl) (by rfl) ?_
          refine WL.p (by rfl) (Yl.eqs (by rfl) (by rfl)) ?_
          refine WL.p (by rfl) (Yl.pickT (by rfl) (by rfl)) ?_
          refine WL.p (by rfl) (Yl.assign (by rfl)) ?_
          refine WL.next ?_
          refine WC.ret ?_
          refine At.thenret ?_
          refine fin1' rfl (by rfl) ?_
          refine RetP.mk hs ?_
          simp_all [TPolicy.is]
        ·
          replace h4 := of_decide_eq_false h4
          refine WL.skip (d := 22) (by rfl) (by rfl) (by rfl) (by rfl) ?_
          refine WL.skip (d := 22) (by rfl) (by rfl) (by rfl) (by rfl) ?_
          refine WL.skip (d := 22) (by rfl) (by rfl) (by rfl) (by rfl) ?_
          refine WL.p (by rfl) (Yl.pickF (by rfl) (by rfl)) ?_
          refine WL.p (by rfl) (Yl.assign (by rfl)) ?_
          refine WL.next ?_
          refine WC.ret ?_
          refine At.thenret ?_
          refine fin1' rfl (by rfl) ?_
          refine RetP.mk hs ?_
          simp_all [TPolicy.is]
      ·
        replace h3 := of_decide_eq_false h3
        refine WL.skip (d := 16) (by rfl) (by rfl) (by rfl) (by rfl) ?_
        refine WL.skip (d := 16) (by rfl) (by rfl) (by rfl) (by rfl) ?_
        refine WL.skip (d := 16) (by rfl) (by rfl) (by rfl) (by rfl) ?_
        refine WL.skip (d := 16) (by rfl) (by rfl) (by rfl) (by rfl) ?_
        refine WL.p (by rfl) (Yl.pickF (by rfl) (by rfl)) ?_
        refine WL.p (by rfl) (Yl.move (by rfl)) ?_
        refine WL.skip (d := 22) (by rfl) (by rfl) (by rfl) (by rfl) ?_
        refine WL.skip (d := 22) (by rfl) (by rfl) (by rfl) (by rfl) ?_
        refine WL.skip (d := 22) (by rfl) (by rfl) (by rfl) (by rfl) ?_
        refine WL.p (by rfl) (Yl.pickF (by rfl) (by rfl)) ?_
        refine WL.p (by rfl) (Yl.assign (by rfl)) ?_
        refine WL.next ?_
        refine WC.ret ?_
        refine At.thenret ?_
        refine fin1' rfl (by rfl) ?_
        refine RetP.mk hs ?_
        simp_all [TPolicy.is]
    ·
      replace h2 := of_decide_eq_false h2
      refine WL.skip (d := 10) (by rfl) (by rfl) (by rfl) (by rfl) ?_
      refine WL.skip (d := 10) (by rfl) (by rfl) (by rfl) (by rfl) ?_
      refine WL.skip (d := 10) (by rfl) (by rfl) (by rfl) (by rfl) ?_
      refine WL.skip (d := 10) (by rfl) (by rfl) (by rfl) (by rfl) ?_
      refine WL.p (by rfl) (Yl.pickF (by rfl) (by rfl)) ?_
      refine WL.p (by rfl) (Yl.move (by rfl)) ?_
      refine WL.skip (d := 16) (by rfl) (by rfl) (by rfl) (by rfl) ?_
      refine WL.skip (d := 16) (by rfl) (by rfl) (by rfl) (by rfl) ?_
      refine WL.skip (d := 16) (by rfl) (by rfl) (by rfl) (by rfl) ?_
      refine WL.skip (d := 16) (by rfl) (by rfl) (by rfl) (by rfl) ?_
      refine WL.p (by rfl) (Yl.pickF (by rfl) (by rfl)) ?_
      refine WL.p (by rfl) (Yl.move (by rfl)) ?_
      refine WL.skip (d := 22) (by rfl) (by rfl) (by rfl) (by rfl) ?_
      refine WL.skip (d := 22) (by rfl) (by rfl) (by rfl) (by rfl) ?_
      refine WL.skip (d := 22) (by rfl) (by rfl) (by rfl) (by rfl) ?_
      refine WL.p (by rfl) (Yl.pickF (by rfl) (by rfl)) ?_
      refine WL.p (by rfl) (Yl.assign (by rfl)) ?_
      refine WL.next ?_
      refine WC.ret ?_
      refine At.thenret ?_
      refine fin1' rfl (by rfl) ?_
      refine RetP.mk hs ?_
      simp_all [TPolicy.is]
  ·
    replace h1 := not_eq_false h1
    refine WC.skipn ?_
    refine WC.seq ?_
    refine WL.p (by rfl) (Yl.fieldAddr fa63_1 (by rfl)) ?_
    refine WL.p (by rfl) (Yl.loadB sca53 (by rfl) hs (by repeat (first | exact List.mem_cons_self | apply List.mem_cons_of_mem)) (by rfl)) ?_
    refine WL.callp hs (by rfl) (Yc.func (by rfl) fn237) (c_impl_areHosts _ _ (Ph.old h_p.scripts hs)) ?_
    clear hs; intro w hs
    refine WL.p (by rfl) (Yl.move (by rfl)) ?_
    refine WL.split (d := 30) (by rfl) (fun h2 => ?_) (fun h2 => ?_)
    ·
      refine WL.run (d := 30) (by rfl) (by rfl) ?_
      refine WL.p (by rfl) (Yl.fieldAddr fa63_2 (by rfl)) ?_
      refine WL.run (d := 30) (by rfl) (by rfl) ?_
      refine WL.p (by rfl) (Yl.loadB sca53 (by rfl) hs (by repeat (first | exact List.mem_cons_self | apply List.mem_cons_of_mem)) (by rfl)) ?_
      refine WL.run (d := 30) (by rfl) (by rfl) ?_
      refine WL.callp hs (by rfl) (Yc.func (by rfl) fn237) (c_impl_areHosts _ _ (Ph.old h_p.styles hs)) ?_
      clear hs; intro w hs
      refine WL.p (by rfl) (Yl.pickT (by rfl) (by rfl)) ?_
      refine WL.p (by rfl) (Yl.move (by rfl)) ?_
      refine WL.split (d := 35) (by rfl) (fun h3 => ?_) (fun h3 => ?_)
      ·
        refine WL.run (d := 35) (by rfl) (by rfl) ?_
        refine WL.p (by rfl) (Yl.fieldAddr fa63_3 (by rfl)) ?_
        refine WL.run (d := 35) (by rfl) (by rfl) ?_
        refine WL.p (by rfl) (Yl.loadB sca53 (by rfl) hs (by repeat (first | exact List.mem_cons_self | apply List.mem_cons_of_mem)) (by rfl)) ?_
        refine WL.run (d := 35) (by rfl) (by rfl) ?_
        refine WL.callp hs (by rfl) (Yc.func (by rfl) fn237) (c_impl_areHosts _ _ (Ph.old h_p.images hs)) ?_
        clear hs; intro w hs
        refine WL.p (by rfl) (Yl.pickT (by rfl) (by rfl)) ?_
        refine WL.p (by rfl) (Yl.move (by rfl)) ?_
        refine WL.split (d := 40) (by rfl) (fun h4 => ?_) (fun h4 => ?_)
        ·
          refine WL.run (d := 40) (by rfl) (by rfl) ?_
          refine WL.p (by rfl) (Yl.fieldAddr fa63_4 (by rfl)) ?_
          refine WL.run (d := 40) (by rfl) (by rfl) ?_
          refine WL.p (by rfl) (Yl.loadB sca9 (by rfl) hs (by repeat (first | exact List.mem_cons_self | apply List.mem_cons_of_mem)) (by rfl)) ?_
          refine WL.run (d := 40) (by rfl) (by rfl) ?_
          refine WL.p (by rfl) (Yl.eqs (by rfl) (by rfl)) ?_
          refine WL.run (d := 40) (by rfl) (by rfl) ?_
          refine WL.p (by rfl) (Yl.move (by rfl)) ?_
          refine WL.split (d := 44) (by rfl) (fun h5 => ?_) (fun h5 => ?_)
          ·
            replace h5 := of_decide_eq_true h5
            refine WL.skip (d := 44) (by rfl) (by rfl) (by rfl) (by rfl) ?_
            refine WL.skip (d := 44) (by rfl) (by rfl) (by rfl) (by rfl) ?_
            refine WL.skip (d := 44) (by rfl) (by rfl) (by rfl) (by rfl) ?_
            refine WL.run (d := 40) (by rfl) (by rfl) ?_
            refine WL.p (by rfl) (Yl.pickT (by rfl) (by rfl)) ?_
            refine WL.p (by rfl) (Yl.pickT (by rfl) (by rfl)) ?_
            refine WL.p (by rfl) (Yl.assign (by rfl)) ?_
            refine WL.next ?_
            refine WC.ret ?_
            refine fin1' rfl (by rfl) ?_
            refine RetP.mk hs ?_
            simp_all [TPolicy.is]
          ·
            replace h5 := of_decide_eq_false h5
            refine WL.run (d := 44) (by rfl) (by rfl) ?_
            refine WL.p (by rfl) (Yl.fieldAddr fa63_4 (by rfl)) ?_
            refine WL.run (d := 44) (by rfl) (by rfl) ?_
            refine WL.p (by rfl) (Yl.loadB sca9 (by rfl) hs (by repeat (first | exact List.mem_cons_self | apply List.mem_cons_of_mem)) (by rfl)) ?_
            refine WL.run (d := 44) (by rfl) (by rfl) ?_
            refine WL.callp hs (by rfl) (Yc.func (by rfl) fn196) (c_impl_IsValue _ _ (Ph.old h_p.nonce hs)) ?_
            clear hs; intro w hs
            refine WL.run (d := 40) (by rfl) (by rfl) ?_
            refine WL.p (by rfl) (Yl.pickF (by rfl) (by rfl)) ?_
            refine WL.p (by rfl) (Yl.pickT (by rfl) (by rfl)) ?_
            refine WL.p (by rfl) (Yl.assign (by rfl)) ?_
            refine WL.next ?_
            refine WC.ret ?_
            refine fin1' rfl (by rfl) ?_
            refine RetP.mk hs ?_
            simp_all [TPolicy.is]
        ·
          refine WL.skip (d := 40) (by rfl) (by rfl) (by rfl) (by rfl) ?_
          refine WL.skip (d := 40) (by rfl) (by rfl) (by rfl) (by rfl) ?_
          refine WL.skip (d := 40) (by rfl) (by rfl) (by rfl) (by rfl) ?_
          refine WL.skip (d := 40) (by rfl) (by rfl) (by rfl) (by rfl) ?_
          refine WL.skipU (d := 44) (by rfl) (by rfl) (by rfl) ?_
          refine WL.skipU (d := 44) (by rfl) (by rfl) (by rfl) ?_
          refine WL.skipU (d := 44) (by rfl) (by rfl) (by rfl) ?_
          refine WL.skip (d := 40) (by rfl) (by rfl) (by rfl) (by rfl) ?_
          refine WL.p (by rfl) (Yl.pickF (by rfl) (by rfl)) ?_
          refine WL.p (by rfl) (Yl.assign (by rfl)) ?_
          refine WL.next ?_
          refine WC.ret ?_
          refine fin1' rfl (by rfl) ?_
          refine RetP.mk hs ?_
          simp_all [TPolicy.is]
      ·
        refine WL.skip (d := 35) (by rfl) (by rfl) (by rfl) (by rfl) ?_
        refine WL.skip (d := 35) (by rfl) (by rfl) (by rfl) (by rfl) ?_
        refine WL.skip (d := 35) (by rfl) (by rfl) (by rfl) (by rfl) ?_
        refine WL.p (by rfl) (Yl.pickF (by rfl) (by rfl)) ?_
        refine WL.p (by rfl) (Yl.move (by rfl)) ?_
        refine WL.skip (d := 40) (by rfl) (by rfl) (by rfl) (by rfl) ?_
        refine WL.skip (d := 40) (by rfl) (by rfl) (by rfl) (by rfl) ?_
        refine WL.skip (d := 40) (by rfl) (by rfl) (by rfl) (by rfl) ?_
        refine WL.skip (d := 40) (by rfl) (by rfl) (by rfl) (by rfl) ?_
        refine WL.skipU (d := 44) (by rfl) (by rfl) (by rfl) ?_
        refine WL.skipU (d := 44) (by rfl) (by rfl) (by rfl) ?_
        refine WL.skipU (d := 44) (by rfl) (by rfl) (by rfl) ?_
        refine WL.skip (d := 40) (by rfl) (by rfl) (by rfl) (by rfl) ?_
        refine WL.p (by rfl) (Yl.pickF (by rfl) (by rfl)) ?_
        refine WL.p (by rfl) (Yl.assign (by rfl)) ?_
        refine WL.next ?_
        refine WC.ret ?_
        refine fin1' rfl (by rfl) ?_
        refine RetP.mk hs ?_
        simp_all [TPolicy.is]
    ·
      refine WL.skip (d := 30) (by rfl) (by rfl) (by rfl) (by rfl) ?_
      refine WL.skip (d := 30) (by rfl) (by rfl) (by rfl) (by rfl) ?_
      refine WL.skip (d := 30) (by rfl) (by rfl) (by rfl) (by rfl) ?_
      refine WL.p (by rfl) (Yl.pickF (by rfl) (by rfl)) ?_
      refine WL.p (by rfl) (Yl.move (by rfl)) ?_
      refine WL.skip (d := 35) (by rfl) (by rfl) (by rfl) (by rfl) ?_
      refine WL.skip (d := 35) (by rfl) (by rfl) (by rfl) (by rfl) ?_
      refine WL.skip (d := 35) (by rfl) (by rfl) (by rfl) (by rfl) ?_
      refine WL.p (by rfl) (Yl.pickF (by rfl) (by rfl)) ?_
      refine WL.p (by rfl) (Yl.move (by rfl)) ?_
      refine WL.skip (d := 40) (by rfl) (by rfl) (by rfl) (by rfl) ?_
      refine WL.skip (d := 40) (by rfl) (by rfl) (by rfl) (by rfl) ?_
      refine WL.skip (d := 40) (by rfl) (by rfl) (by rfl) (by rfl) ?_
      refine WL.skip (d := 40) (by rfl) (by rfl) (by rfl) (by rfl) ?_
      refine WL.skipU (d := 44) (by rfl) (by rfl) (by rfl) ?_
      refine WL.skipU (d := 44) (by rfl) (by rfl) (by rfl) ?_
      refine WL.skipU (d := 44) (by rfl) (by rfl) (by rfl) ?_
      refine WL.skip (d := 40) (by rfl) (by rfl) (by rfl) (by rfl) ?_
      refine WL.p (by rfl) (Yl.pickF (by rfl) (by rfl)) ?_
      refine WL.p (by rfl) (Yl.assign (by rfl)) ?_
      refine WL.next ?_
      refine WC.ret ?_
      refine fin1' rfl (by rfl) ?_
      refine RetP.mk hs ?_
      simp_all [TPolicy.is]

theorem c_strings_Join (elems : (Sl Str)) (sep : Str) (w : World) (h_elems : Ph.ok w elems) (h1 : elems.l.length ≤ 140737488355328) (h2 : (joinS elems.l sep).length ≤ 140737488355328) : Calls Tryz.prog 223 [Sl.v elems, S sep].toArray w (RetP w (S (joinS elems.l sep))) := by
  exact join_calls Tryz.strings_Join_none Tryz.strings_Join elems sep w h_elems h1 h2

theorem c_impl_FormatPolicy (p : PPolicy) (w : World) (h_p : Ph.ok w p) (hb : p.lg.size ≤ 2097152) : Calls Tryz.prog 200 [.agg #[Bo p.set, Sl.v p.scripts, Sl.v p.styles, Sl.v p.images, S p.nonce]].toArray w (RetP w (S (fmtPolicy p.lg))) := by
  refine enterN 40 Tryz.func200 rfl rfl rfl ?_
  have hs := Sat.start w
  refine WC.seq ?_
  refine WL.r (by rfl) (Yr.box hs (by rfl) (by rfl)) ?_
  clear hs; rintro _ w ⟨b1, rfl, hb, hs⟩; clear hb
  refine WL.p (by rfl) (Yl.assign (by rfl)) ?_
  refine WL.next ?_
  refine WC.seq' ?_
  refine WC.seq ?_
  refine WL.p (by rfl) (Yl.loadAB agg63 (by rfl) hs (by repeat (first | exact List.mem_cons_self | apply List.mem_cons_of_mem)) (by rfl) (by rfl)) ?_
  refine WL.callp hs (by rfl) (Yc.func (by rfl) fn222) (c_impl_IsPolicy _ _ (Ph.old h_p hs)) ?_
  clear hs; intro w hs
  refine WL.p (by rfl) (Yl.not (by rfl)) ?_
  refine WL.p (by rfl) (Yl.move (by rfl)) ?_
  refine WL.split (d := 7) (by rfl) (fun h1 => ?_) (fun h1 => ?_)
  ·
    replace h1 := not_eq_true h1
    refine WL.skip (d := 7) (by rfl) (by rfl) (by rfl) (by rfl) ?_
    refine WL.skip (d := 7) (by rfl) (by rfl) (by rfl) (by rfl) ?_
    refine WL.skip (d := 7) (by rfl) (by rfl) (by rfl) (by rfl) ?_
    refine WL.p (by rfl) (Yl.pickT (by rfl) (by rfl)) ?_
    refine WL.next ?_
    refine WC.condT (by rfl) ?_
    refine WC.seq ?_
    refine WL.p (by rfl) (Yl.assign (by rfl)) ?_
    refine WL.next ?_
    refine WC.ret ?_
    refine At.thenret ?_
    refine fin1' rfl (by rfl) ?_
    refine RetP.mk hs ?_
    first
      | (simp [fmtPolicy, h1]; done)
      | (simp [fmtPolicy, h2]; done)
      | (simp [fmtPolicy, h1, h2, h3, wordsText]; done)
  ·
    replace h1 := not_eq_false h1
    refine WL.run (d := 7) (by rfl) (by rfl) ?_
    refine WL.p (by rfl) (Yl.fieldAddr fa63_0 (by rfl)) ?_
    refine WL.run (d := 7) (by rfl) (by rfl) ?_
    refine WL.p (by rfl) (Yl.loadB sca4 (by rfl) hs (by repeat (first | exact List.mem_cons_self | apply List.mem_cons_of_mem)) (by rfl)) ?_
    refine WL.run (d := 7) (by rfl) (by rfl) ?_
    refine WL.p (by rfl) (Yl.not (by rfl)) ?_
    refine WL.p (by rfl) (Yl.pickF (by rfl) (by rfl)) ?_
    refine WL.next ?_
    refine WC.condS (by rfl) (fun h2 => ?_) (fun h2 => ?_)
    ·
      replace h2 := not_eq_true h2
      refine WC.seq ?_
      refine WL.p (by rfl) (Yl.assign (by rfl)) ?_
      refine WL.next ?_
      refine WC.ret ?_
      refine At.thenret ?_
      refine fin1' rfl (by rfl) ?_
      refine RetP.mk hs ?_
      first
        | (simp [fmtPolicy, h1]; done)
        | (simp [fmtPolicy, h2]; done)
        | (simp [fmtPolicy, h1, h2, h3, wordsText]; done)
    ·
      replace h2 := not_eq_false h2
      refine WC.skipn ?_
      refine WC.anyn mixed hs ?_
      clear hs; intro w hs
      refine WA.p (i := 1) (by rfl) (by kernel_rfl) (by kernel_rfl) (by kernel_rfl) (by rfl) (hs.only (by repeat (first | exact Sel.nil | (apply Sel.cons; (repeat (first | exact Ext.here | apply Ext.there)))))) (fun w hs => Yl.fieldAddr fa63_1 (by rfl)) ?_
      refine WA.p (i := 2) (by rfl) (by kernel_rfl) (by kernel_rfl) (by kernel_rfl) (by rfl) (hs.only (by repeat (first | exact Sel.nil | (apply Sel.cons; (repeat (first | exact Ext.here | apply Ext.there)))))) (fun w hs => Yl.loadB sca53 (by rfl) hs (by repeat (first | exact List.mem_cons_self | apply List.mem_cons_of_mem)) (by rfl)) ?_
      refine WA.p (i := 7) (by rfl) (by kernel_rfl) (by kernel_rfl) (by kernel_rfl) (by rfl) (hs.only (by repeat (first | exact Sel.nil | (apply Sel.cons; (repeat (first | exact Ext.here | apply Ext.there)))))) (fun w hs => Yl.fieldAddr fa63_2 (by rfl)) ?_
      refine WA.p (i := 8) (by rfl) (by kernel_rfl) (by kernel_rfl) (by kernel_rfl) (by rfl) (hs.only (by repeat (first | exact Sel.nil | (apply Sel.cons; (repeat (first | exact Ext.here | apply Ext.there)))))) (fun w hs => Yl.loadB sca53 (by rfl) hs (by repeat (first | exact List.mem_cons_self | apply List.mem_cons_of_mem)) (by rfl)) ?_
      refine WA.p (i := 14) (by rfl) (by kernel_rfl) (by kernel_rfl) (by kernel_rfl) (by rfl) (hs.only (by repeat (first | exact Sel.nil | (apply Sel.cons; (repeat (first | exact Ext.here | apply Ext.there)))))) (fun w hs => Yl.fieldAddr fa63_3 (by rfl)) ?_
      refine WA.p (i := 15) (by rfl) (by kernel_rfl) (by kernel_rfl) (by kernel_rfl) (by rfl) (hs.only (by repeat (first | exact Sel.nil | (apply Sel.cons; (repeat (first | exact Ext.here | apply Ext.there)))))) (fun w hs => Yl.loadB sca53 (by rfl) hs (by repeat (first | exact List.mem_cons_self | apply List.mem_cons_of_mem)) (by rfl)) ?_
      refine WA.dag' [(⟨0, 12, [], (fun _ v cs => ∃ b, v = .slice (some ⟨b, 0, none⟩) 1 1 ∧ cs = [box b 9 (([S (([115, 99, 114, 105, 112, 116] : Str))]))])⟩, []), (⟨3, 15, [], (fun _ v cs => ∃ (x : Sl Str) (F : List Nat), v = x.v ∧ cs = [ow x F] ∧ x.l = [([115, 99, 114, 105, 112, 116] : Str)] ++ p.scripts.l)⟩, [(0, true)]), (⟨4, 16, [], (fun _ v cs => v = S (joinS ([([115, 99, 114, 105, 112, 116] : Str)] ++ p.scripts.l) ([32] : Str)) ∧ cs = [])⟩, [(1, false)]), (⟨5, 17, [], (fun _ v cs => v = S (((joinS ([([115, 99, 114, 105, 112, 116] : Str)] ++ p.scripts.l) ([32] : Str)) ++ ([59] : Str))) ∧ cs = [])⟩, [(2, false)]), (⟨6, 18, [], (fun _ v cs => ∃ b, v = .slice (some ⟨b, 0, none⟩) 1 1 ∧ cs = [box b 9 (([S (([115, 116, 121, 108, 101] : Str))]))])⟩, []), (⟨9, 21, [], (fun _ v cs => ∃ (x : Sl Str) (F : List Nat), v = x.v ∧ cs = [ow x F] ∧ x.l = [([115, 116, 121, 108, 101] : Str)] ++ p.styles.l)⟩, [(2, false), (4, true)]), (⟨10, 22, [], (fun _ v cs => v = S (joinS ([([115, 116, 121, 108, 101] : Str)] ++ p.styles.l) ([32] : Str)) ∧ cs = [])⟩, [(5, false)]), (⟨11, 23, [], (fun _ v cs => v = S ((((joinS ([([115, 99, 114, 105, 112, 116] : Str)] ++ p.scripts.l) ([32] : Str)) ++ ([59] : Str)) ++ (joinS ([([115, 116, 121, 108, 101] : Str)] ++ p.styles.l) ([32] : Str)))) ∧ cs = [])⟩, [(3, false), (6, false)]), (⟨12, 24, [], (fun _ v cs => v = S (((((joinS ([([115, 99, 114, 105, 112, 116] : Str)] ++ p.scripts.l) ([32] : Str)) ++ ([59] : Str)) ++ (joinS ([([115, 116, 121, 108, 101] : Str)] ++ p.styles.l) ([32] : Str))) ++ ([59] : Str))) ∧ cs = [])⟩, [(7, false)]), (⟨13, 25, [], (fun _ v cs => ∃ b, v = .slice (some ⟨b, 0, none⟩) 1 1 ∧ cs = [box b 9 (([S (([105, 109, 103] : Str))]))])⟩, []), (⟨16, 28, [], (fun _ v cs => ∃ (x : Sl Str) (F : List Nat), v = x.v ∧ cs = [ow x F] ∧ x.l = [([105, 109, 103] : Str)] ++ p.images.l)⟩, [(6, false), (9, true)]), (⟨17, 29, [], (fun _ v cs => v = S (joinS ([([105, 109, 103] : Str)] ++ p.images.l) ([32] : Str)) ∧ cs = [])⟩, [(10, false)])] [true, false, false, false, true, false, false, false, false, true, false, false] [(0, _), (1, _), (2, _), (4, _), (5, _), (6, _), (7, _), (8, _), (9, _), (10, _), (11, _), (13, _), (14, _), (19, _), (20, _), (26, _), (27, _)] ⟨by rfl, by rfl, by rfl, by rfl, by rfl, by rfl, by rfl, by rfl, by rfl, by rfl, by rfl, by rfl, by rfl, by rfl, by rfl, by rfl, by rfl, trivial⟩ (by rfl) (by kernel_rfl) (by kernel_rfl) (by kernel_rfl) (by kernel_rfl) (by kernel_rfl) (by kernel_rfl) (by kernel_rfl) (by kernel_rfl) (fun _ hs => hs.only (by repeat (first | exact Sel.nil | (apply Sel.cons; (repeat (first | exact Ext.here | apply Ext.there)))))) hs (fuel := 2) ⟨⟨local_const, ?_⟩, ⟨local_const, ?_⟩, ⟨local_const, ?_⟩, ⟨local_const, ?_⟩, ⟨local_const, ?_⟩, ⟨local_const, ?_⟩, ⟨local_const, ?_⟩, ⟨local_const, ?_⟩, ⟨local_const, ?_⟩, ⟨local_const, ?_⟩, ⟨local_const, ?_⟩, ⟨local_const, ?_⟩, trivial⟩ ?_
      ·
        clear hs
        intro w R hs
        simp only [List.cons_append, List.nil_append] at hs
        exact Gives.rr' (by rfl) (Yr.buildSlice hs sll53 (by rfl) (by rfl) (by rfl) (by repeat (first | exact Fill.nil | (apply Fill.cons; rfl; rfl; rfl; repeat (first | (apply SetAt.here; repeat (first | exact Over.nil | apply Over.cons)) | apply SetAt.there)))) (by rfl)) (fun _ _ ⟨b, hv, _, hs1⟩ => ⟨[box b 9 (([S (([115, 99, 114, 105, 112, 116] : Str))]))], ⟨b, hv, rfl⟩, hs1⟩)
      ·
        clear hs
        rintro _ _ ⟨b2, rfl, rfl⟩
        intro w R hs
        simp only [List.cons_append, List.nil_append] at hs
        replace hs := (Sat.boxow (l := ([([115, 99, 114, 105, 112, 116] : Str)] : List Str)) (hs.sel (D := [box b2 _ _]) (by repeat (first | exact Sel.nil | (apply Sel.cons; (repeat (first | exact Ext.here | apply Ext.there)))))) rfl rfl (by simp [maxLen]) (ownL_mk_flat (by intro x hx; obtain rfl := List.mem_singleton.1 hx; show WfS _; unfold WfS; simp)))
        refine Gives.rr' (by rfl) (Yr.appendS (s := (⟨[([115, 99, 114, 105, 112, 116] : Str)], some ⟨b2, 0, none⟩, _⟩ : Sl Str)) (F := [b2]) (r := p.scripts) hs elt53 (by repeat (first | exact Sel.nil | (apply Sel.cons; (repeat (first | exact Ext.here | apply Ext.there))))) (by rfl) (by rfl) (Ph.old h_p.scripts hs) (by simp only [TPolicy.size, PPolicy.lg, strsz, lsz] at hb; simp; unfold maxLen; omega) (by simp only [TPolicy.size, PPolicy.lg, strsz, lsz] at hb; simp; omega)) ?_
        rintro _ w1 ⟨s4, F4, rfl, hl4, hs⟩
        exact ⟨[ow s4 F4], ⟨s4, F4, rfl, rfl, by first | exact hl4 | (simp only [List.append_nil] at hl4 ⊢; exact hl4)⟩, hs⟩
      ·
        clear hs
        rintro _ _ ⟨x5, F5, rfl, rfl, hx5⟩
        intro w R hs
        simp only [List.cons_append, List.nil_append] at hs
        refine Gives.c' (by rfl) (Yc.func (by rfl) fn223) (c_strings_Join _ _ _ (hs.okow (x := x5) (F := F5) (by repeat (first | exact List.mem_cons_self | apply List.mem_cons_of_mem))) (by simp only [hx5]; first | (simp only [TPolicy.size, PPolicy.lg, strsz, lsz] at hb; simp; omega) | (simp only [List.cons_append, List.nil_append]; refine Nat.le_trans (wordsText_len _ _) ?_; simp only [TPolicy.size, PPolicy.lg, List.length_cons, List.length_nil] at hb ⊢; omega)) (by simp only [hx5]; first | (simp only [TPolicy.size, PPolicy.lg, strsz, lsz] at hb; simp; omega) | (simp only [List.cons_append, List.nil_append]; refine Nat.le_trans (wordsText_len _ _) ?_; simp only [TPolicy.size, PPolicy.lg, List.length_cons, List.length_nil] at hb ⊢; omega))) ?_
        rintro _ w1 ⟨rfl, hb⟩
        exact ⟨_, rfl, [], ⟨(by first | rfl | (simp only [hx5])), rfl⟩, hs.ext hb⟩
      ·
        clear hs
        rintro _ _ ⟨rfl, rfl⟩
        intro w R hs
        simp only [List.cons_append, List.nil_append] at hs
        exact Gives.p' (by rfl) (Yl.cat (by rfl) (by rfl) (by have j1 := wordsText_len [115, 99, 114, 105, 112, 116] p.scripts.l; have j2 := wordsText_len [115, 116, 121, 108, 101] p.styles.l; have j3 := wordsText_len [105, 109, 103] p.images.l; simp only [wordsText, List.cons_append, List.nil_append, List.length_append, List.length_cons, List.length_nil, TPolicy.size, PPolicy.lg] at j1 j2 j3 hb ⊢; omega)) ⟨[], ⟨rfl, rfl⟩, hs⟩
      ·
        clear hs
        intro w R hs
        simp only [List.cons_append, List.nil_append] at hs
        exact Gives.rr' (by rfl) (Yr.buildSlice hs sll53 (by rfl) (by rfl) (by rfl) (by repeat (first | exact Fill.nil | (apply Fill.cons; rfl; rfl; rfl; repeat (first | (apply SetAt.here; repeat (first | exact Over.nil | apply Over.cons)) | apply SetAt.there)))) (by rfl)) (fun _ _ ⟨b, hv, _, hs1⟩ => ⟨[box b 9 (([S (([115, 116, 121, 108, 101] : Str))]))], ⟨b, hv, rfl⟩, hs1⟩)
      ·
        clear hs
        rintro _ _ ⟨rfl, rfl⟩
        rintro _ _ ⟨b8, rfl, rfl⟩
        intro w R hs
        simp only [List.cons_append, List.nil_append] at hs
        replace hs := (Sat.boxow (l := ([([115, 116, 121, 108, 101] : Str)] : List Str)) (hs.sel (D := [box b8 _ _]) (by repeat (first | exact Sel.nil | (apply Sel.cons; (repeat (first | exact Ext.here | apply Ext.there)))))) rfl rfl (by simp [maxLen]) (ownL_mk_flat (by intro x hx; obtain rfl := List.mem_singleton.1 hx; show WfS _; unfold WfS; simp)))
        refine Gives.rr' (by rfl) (Yr.appendS (s := (⟨[([115, 116, 121, 108, 101] : Str)], some ⟨b8, 0, none⟩, _⟩ : Sl Str)) (F := [b8]) (r := p.styles) hs elt53 (by repeat (first | exact Sel.nil | (apply Sel.cons; (repeat (first | exact Ext.here | apply Ext.there))))) (by rfl) (by rfl) (Ph.old h_p.styles hs) (by simp only [TPolicy.size, PPolicy.lg, strsz, lsz] at hb; simp; unfold maxLen; omega) (by simp only [TPolicy.size, PPolicy.lg, strsz, lsz] at hb; simp; omega)) ?_
        rintro _ w1 ⟨s10, F10, rfl, hl10, hs⟩
        exact ⟨[ow s10 F10], ⟨s10, F10, rfl, rfl, by first | exact hl10 | (simp only [List.append_nil] at hl10 ⊢; exact hl10)⟩, hs⟩
      ·
        clear hs
        rintro _ _ ⟨x11, F11, rfl, rfl, hx11⟩
        intro w R hs
        simp only [List.cons_append, List.nil_append] at hs
        refine Gives.c' (by rfl) (Yc.func (by rfl) fn223) (c_strings_Join _ _ _ (hs.okow (x := x11) (F := F11) (by repeat (first | exact List.mem_cons_self | apply List.mem_cons_of_mem))) (by simp only [hx11]; first | (simp only [TPolicy.size, PPolicy.lg, strsz, lsz] at hb; simp; omega) | (simp only [List.cons_append, List.nil_append]; refine Nat.le_trans (wordsText_len _ _) ?_; simp only [TPolicy.size, PPolicy.lg, List.length_cons, List.length_nil] at hb ⊢; omega)) (by simp only [hx11]; first | (simp only [TPolicy.size, PPolicy.lg, strsz, lsz] at hb; simp; omega) | (simp only [List.cons_append, List.nil_append]; refine Nat.le_trans (wordsText_len _ _) ?_; simp only [TPolicy.size, PPolicy.lg, List.length_cons, List.length_nil] at hb ⊢; omega))) ?_
        rintro _ w1 ⟨rfl, hb⟩
        exact ⟨_, rfl, [], ⟨(by first | rfl | (simp only [hx11])), rfl⟩, hs.ext hb⟩
      ·
        clear hs
        rintro _ _ ⟨rfl, rfl⟩
        rintro _ _ ⟨rfl, rfl⟩
        intro w R hs
        simp only [List.cons_append, List.nil_append] at hs
        exact Gives.p' (by rfl) (Yl.cat (by rfl) (by rfl) (by have j1 := wordsText_len [115, 99, 114, 105, 112, 116] p.scripts.l; have j2 := wordsText_len [115, 116, 121, 108, 101] p.styles.l; have j3 := wordsText_len [105, 109, 103] p.images.l; simp only [wordsText, List.cons_append, List.nil_append, List.length_append, List.length_cons, List.length_nil, TPolicy.size, PPolicy.lg] at j1 j2 j3 hb ⊢; omega)) ⟨[], ⟨rfl, rfl⟩, hs⟩
      ·
        clear hs
        rintro _ _ ⟨rfl, rfl⟩
        intro w R hs
        simp only [List.cons_append, List.nil_append] at hs
        exact Gives.p' (by rfl) (Yl.cat (by rfl) (by rfl) (by have j1 := wordsText_len [115, 99, 114, 105, 112, 116] p.scripts.l; have j2 := wordsText_len [115, 116, 121, 108, 101] p.styles.l; have j3 := wordsText_len [105, 109, 103] p.images.l; simp only [wordsText, List.cons_append, List.nil_append, List.length_append, List.length_cons, List.length_nil, TPolicy.size, PPolicy.lg] at j1 j2 j3 hb ⊢; omega)) ⟨[], ⟨rfl, rfl⟩, hs⟩
      ·
        clear hs
        intro w R hs
        simp only [List.cons_append, List.nil_append] at hs
        exact Gives.rr' (by rfl) (Yr.buildSlice hs sll53 (by rfl) (by rfl) (by rfl) (by repeat (first | exact Fill.nil | (apply Fill.cons; rfl; rfl; rfl; repeat (first | (apply SetAt.here; repeat (first | exact Over.nil | apply Over.cons)) | apply SetAt.there)))) (by rfl)) (fun _ _ ⟨b, hv, _, hs1⟩ => ⟨[box b 9 (([S (([105, 109, 103] : Str))]))], ⟨b, hv, rfl⟩, hs1⟩)
      ·
        clear hs
        rintro _ _ ⟨rfl, rfl⟩
        rintro _ _ ⟨b15, rfl, rfl⟩
        intro w R hs
        simp only [List.cons_append, List.nil_append] at hs
        replace hs := (Sat.boxow (l := ([([105, 109, 103] : Str)] : List Str)) (hs.sel (D := [box b15 _ _]) (by repeat (first | exact Sel.nil | (apply Sel.cons; (repeat (first | exact Ext.here | apply Ext.there)))))) rfl rfl (by simp [maxLen]) (ownL_mk_flat (by intro x hx; obtain rfl := List.mem_singleton.1 hx; show WfS _; unfold WfS; simp)))
        refine Gives.rr' (by rfl) (Yr.appendS (s := (⟨[([105, 109, 103] : Str)], some ⟨b15, 0, none⟩, _⟩ : Sl Str)) (F := [b15]) (r := p.images) hs elt53 (by repeat (first | exact Sel.nil | (apply Sel.cons; (repeat (first | exact Ext.here | apply Ext.there))))) (by rfl) (by rfl) (Ph.old h_p.images hs) (by simp only [TPolicy.size, PPolicy.lg, strsz, lsz] at hb; simp; unfold maxLen; omega) (by simp only [TPolicy.size, PPolicy.lg, strsz, lsz] at hb; simp; omega)) ?_
        rintro _ w1 ⟨s17, F17, rfl, hl17, hs⟩
        exact ⟨[ow s17 F17], ⟨s17, F17, rfl, rfl, by first | exact hl17 | (simp only [List.append_nil] at hl17 ⊢; exact hl17)⟩, hs⟩
      ·
        clear hs
        rintro _ _ ⟨x18, F18, rfl, rfl, hx18⟩
        intro w R hs
        simp only [List.cons_append, List.nil_append] at hs
        refine Gives.c' (by rfl) (Yc.func (by rfl) fn223) (c_strings_Join _ _ _ (hs.okow (x := x18) (F := F18) (by repeat (first | exact List.mem_cons_self | apply List.mem_cons_of_mem))) (by simp only [hx18]; first | (simp only [TPolicy.size, PPolicy.lg, strsz, lsz] at hb; simp; omega) | (simp only [List.cons_append, List.nil_append]; refine Nat.le_trans (wordsText_len _ _) ?_; simp only [TPolicy.size, PPolicy.lg, List.length_cons, List.length_nil] at hb ⊢; omega)) (by simp only [hx18]; first | (simp only [TPolicy.size, PPolicy.lg, strsz, lsz] at hb; simp; omega) | (simp only [List.cons_append, List.nil_append]; refine Nat.le_trans (wordsText_len _ _) ?_; simp only [TPolicy.size, PPolicy.lg, List.length_cons, List.length_nil] at hb ⊢; omega))) ?_
        rintro _ w1 ⟨rfl, hb⟩
        exact ⟨_, rfl, [], ⟨(by first | rfl | (simp only [hx18])), rfl⟩, hs.ext hb⟩
      clear hs
      rintro _ _ ⟨b2, rfl, rfl⟩
      rintro _ _ ⟨x5, F5, rfl, rfl, hx5⟩
      rintro _ _ ⟨rfl, rfl⟩
      rintro _ _ ⟨rfl, rfl⟩
      rintro _ _ ⟨b8, rfl, rfl⟩
      rintro _ _ ⟨x11, F11, rfl, rfl, hx11⟩
      rintro _ _ ⟨rfl, rfl⟩
      rintro _ _ ⟨rfl, rfl⟩
      rintro _ _ ⟨rfl, rfl⟩
      rintro _ _ ⟨b15, rfl, rfl⟩
      rintro _ _ ⟨x18, F18, rfl, rfl, hx18⟩
      rintro _ _ ⟨rfl, rfl⟩
      intro w hs
      simp only [List.cons_append, List.nil_append, cond_true, cond_false] at hs
      refine WA.p (i := 18) (by rfl) (by kernel_rfl) (by kernel_rfl) (by kernel_rfl) (by rfl) (hs.only (by repeat (first | exact Sel.nil | (apply Sel.cons; (repeat (first | exact Ext.here | apply Ext.there)))))) (fun w hs => Yl.cat (by rfl) (by rfl) (by have j1 := wordsText_len [115, 99, 114, 105, 112, 116] p.scripts.l; have j2 := wordsText_len [115, 116, 121, 108, 101] p.styles.l; have j3 := wordsText_len [105, 109, 103] p.images.l; simp only [wordsText, List.cons_append, List.nil_append, List.length_append, List.length_cons, List.length_nil, TPolicy.size, PPolicy.lg] at j1 j2 j3 hb ⊢; omega)) ?_
      refine WA.p (i := 19) (by rfl) (by kernel_rfl) (by kernel_rfl) (by kernel_rfl) (by rfl) (hs.only (by repeat (first | exact Sel.nil | (apply Sel.cons; (repeat (first | exact Ext.here | apply Ext.there)))))) (fun w hs => Yl.assign (by rfl)) ?_
      refine WA.donen (by kernel_rfl) ?_
      refine WC.seq' ?_
      refine WC.seq ?_
      refine WL.p (by rfl) (Yl.fieldAddr fa63_4 (by rfl)) ?_
      refine WL.p (by rfl) (Yl.loadB sca9 (by rfl) hs (by repeat (first | exact List.mem_cons_self | apply List.mem_cons_of_mem)) (by rfl)) ?_
      refine WL.p (by rfl) (Yl.nes (by rfl) (by rfl)) ?_
      refine WL.next ?_
      refine WC.condS (by rfl) (fun h3 => ?_) (fun h3 => ?_)
      ·
        replace h3 := not_eq_true h3
        replace h3 := of_decide_eq_false h3
        refine WC.region ?_
        refine WL.p (by rfl) (Yl.move (by rfl)) ?_
        refine WL.p (by rfl) (Yl.fieldAddr fa63_4 (by rfl)) ?_
        refine WL.p (by rfl) (Yl.loadB sca9 (by rfl) hs (by repeat (first | exact List.mem_cons_self | apply List.mem_cons_of_mem)) (by rfl)) ?_
        refine WL.p (by rfl) (Yl.cat (by rfl) (by rfl) (by have j1 := wordsText_len [115, 99, 114, 105, 112, 116] p.scripts.l; have j2 := wordsText_len [115, 116, 121, 108, 101] p.styles.l; have j3 := wordsText_len [105, 109, 103] p.images.l; simp only [wordsText, List.cons_append, List.nil_append, List.length_append, List.length_cons, List.length_nil, TPolicy.size, PPolicy.lg] at j1 j2 j3 hb ⊢; omega)) ?_
        refine WL.p (by rfl) (Yl.cat (by rfl) (by rfl) (by have j1 := wordsText_len [115, 99, 114, 105, 112, 116] p.scripts.l; have j2 := wordsText_len [115, 116, 121, 108, 101] p.styles.l; have j3 := wordsText_len [105, 109, 103] p.images.l; simp only [wordsText, List.cons_append, List.nil_append, List.length_append, List.length_cons, List.length_nil, TPolicy.size, PPolicy.lg] at j1 j2 j3 hb ⊢; omega)) ?_
        refine WL.p (by rfl) (Yl.assign (by rfl)) ?_
        refine WL.nil ?_
        refine At.then_ ?_
        refine WC.seq ?_
        refine WL.p (by rfl) (Yl.move (by rfl)) ?_
        refine WL.p (by rfl) (Yl.assign (by rfl)) ?_
        refine WL.next ?_
        refine WC.ret ?_
        refine fin1' rfl (by rfl) ?_
        refine RetP.mk hs ?_
        first
          | (simp [fmtPolicy, h1]; done)
          | (simp [fmtPolicy, h2]; done)
          | (simp [fmtPolicy, h1, h2, h3, wordsText]; done)
      ·
        replace h3 := not_eq_false h3
        replace h3 := of_decide_eq_true h3
        refine WC.skipn ?_
        refine WC.seq ?_
        refine WL.p (by rfl) (Yl.move (by rfl)) ?_
        refine WL.p (by rfl) (Yl.assign (by rfl)) ?_
        refine WL.next ?_
        refine WC.ret ?_
        refine fin1' rfl (by rfl) ?_
        refine RetP.mk hs ?_
        first
          | (simp [fmtPolicy, h1]; done)
          | (simp [fmtPolicy, h2]; done)
          | (simp [fmtPolicy, h1, h2, h3, wordsText]; done)

theorem c_impl_copyPolicy (p : PPolicy) (w : World) (h_p : Ph.ok w p) (hb : p.lg.size ≤ 1048576) : Calls Tryz.prog 201 [.agg #[Bo p.set, Sl.v p.scripts, Sl.v p.styles, Sl.v p.images, S p.nonce]].toArray w (Ret w (fun v w' => ∃ x : PPolicy, v = .agg (Ph.enc x).toArray ∧ x.lg = p.lg ∧ Fresh w x w')) := by
  refine enterN 19 Tryz.func201 rfl rfl rfl ?_
  have hs := Sat.start w
  refine WC.seq ?_
  refine WL.r (by rfl) (Yr.box hs (by rfl) (by rfl)) ?_
  clear hs; rintro _ w ⟨b1, rfl, hb, hs⟩; clear hb
  refine WL.r (by rfl) (Yr.alloc hs zt63) ?_
  clear hs; rintro _ w ⟨b2, rfl, hb, hs⟩; clear hb
  refine WL.next ?_
  refine WC.seq ?_
  refine WL.r (by rfl) (Yr.buildSlice hs sll53 (by rfl) (by rfl) (by rfl) (by repeat (first | exact Fill.nil | (apply Fill.cons; rfl; rfl; rfl; repeat (first | (apply SetAt.here; repeat (first | exact Over.nil | apply Over.cons)) | apply SetAt.there)))) (by rfl)) ?_
  clear hs; rintro _ w ⟨b3, rfl, hb, hs⟩; clear hb
  refine WL.p (by rfl) (Yl.fieldAddr fa63_1 (by rfl)) ?_
  refine WL.p (by rfl) (Yl.loadB sca53 (by rfl) hs (by repeat (first | exact List.mem_cons_self | apply List.mem_cons_of_mem)) (by rfl)) ?_
  replace hs := (Sat.boxow (l := ([] : List Str)) (hs.sel (D := [box b3 _ _]) (by repeat (first | exact Sel.nil | (apply Sel.cons; (repeat (first | exact Ext.here | apply Ext.there)))))) rfl rfl (by simp [maxLen]) (ownL_mk_flat (by simp)))
  refine WL.r (by rfl) (Yr.appendS (s := (⟨[], some ⟨b3, 0, none⟩, _⟩ : Sl Str)) (F := [b3]) (r := p.scripts) hs elt53 (by repeat (first | exact Sel.nil | (apply Sel.cons; (repeat (first | exact Ext.here | apply Ext.there))))) (by rfl) (by rfl) (Ph.old h_p.scripts hs) (by have h1 := h_p.scripts.lt; have h2 := h_p.styles.lt; have h3 := h_p.images.lt; simp; unfold maxLen; omega) (by simp only [TPolicy.size, strsz, lsz] at hb; simp; omega)) ?_
  clear hs; rintro _ w ⟨s4, F4, rfl, hl4, hs⟩
  refine WL.p (by rfl) (Yl.fieldAddr fa63_1 (by rfl)) ?_
  refine WL.s (Yr.storeB hs (by rfl) (by rfl) (by rfl) (by repeat (first | exact Repl.here | apply Repl.there)) (by repeat (first | (apply SetAt.here; repeat (first | exact Over.nil | apply Over.cons)) | apply SetAt.there)) (by rfl) (by exact szf53)) ?_
  clear hs; rintro _ w hs
  refine WL.next ?_
  refine WC.seq ?_
  refine WL.r (by rfl) (Yr.buildSlice hs sll53 (by rfl) (by rfl) (by rfl) (by repeat (first | exact Fill.nil | (apply Fill.cons; rfl; rfl; rfl; repeat (first | (apply SetAt.here; repeat (first | exact Over.nil | apply Over.cons)) | apply SetAt.there)))) (by rfl)) ?_
  clear hs; rintro _ w ⟨b5, rfl, hb, hs⟩; clear hb
  refine WL.p (by rfl) (Yl.fieldAddr fa63_2 (by rfl)) ?_
  refine WL.p (by rfl) (Yl.loadB sca53 (by rfl) hs (by repeat (first | exact List.mem_cons_self | apply List.mem_cons_of_mem)) (by rfl)) ?_
  replace hs := (Sat.boxow (l := ([] : List Str)) (hs.sel (D := [box b5 _ _]) (by repeat (first | exact Sel.nil | (apply Sel.cons; (repeat (first | exact Ext.here | apply Ext.there)))))) rfl rfl (by simp [maxLen]) (ownL_mk_flat (by simp)))
  refine WL.r (by rfl) (Yr.appendS (s := (⟨[], some ⟨b5, 0, none⟩, _⟩ : Sl Str)) (F := [b5]) (r := p.styles) hs elt53 (by repeat (first | exact Sel.nil | (apply Sel.cons; (repeat (first | exact Ext.here | apply Ext.there))))) (by rfl) (by rfl) (Ph.old h_p.styles hs) (by have h1 := h_p.scripts.lt; have h2 := h_p.styles.lt; have h3 := h_p.images.lt; simp; unfold maxLen; omega) (by simp only [TPolicy.size, strsz, lsz] at hb; simp; omega)) ?_
  clear hs; rintro _ w ⟨s6, F6, rfl, hl6, hs⟩
  refine WL.p (by rfl) (Yl.fieldAddr fa63_2 (by rfl)) ?_
  refine WL.s (Yr.storeB hs (by rfl) (by rfl) (by rfl) (by repeat (first | exact Repl.here | apply Repl.there)) (by repeat (first | (apply SetAt.here; repeat (first | exact Over.nil | apply Over.cons)) | apply SetAt.there)) (by rfl) (by exact szf53)) ?_
  clear hs; rintro _ w hs
  refine WL.next ?_
  refine WC.seq ?_
  refine WL.r (by rfl) (Yr.buildSlice hs sll53 (by rfl) (by rfl) (by rfl) (by repeat (first | exact Fill.nil | (apply Fill.cons; rfl; rfl; rfl; repeat (first | (apply SetAt.here; repeat (first | exact Over.nil | apply Over.cons)) | apply SetAt.there)))) (by rfl)) ?_
  clear hs; rintro _ w ⟨b7, rfl, hb, hs⟩; clear hb
  refine WL.p (by rfl) (Yl.fieldAddr fa63_3 (by rfl)) ?_
  refine WL.p (by rfl) (Yl.loadB sca53 (by rfl) hs (by repeat (first | exact List.mem_cons_self | apply List.mem_cons_of_mem)) (by rfl)) ?_
  replace hs := (Sat.boxow (l := ([] : List Str)) (hs.sel (D := [box b7 _ _]) (by repeat (first | exact Sel.nil | (apply Sel.cons; (repeat (first | exact Ext.here | apply Ext.there)))))) rfl rfl (by simp [maxLen]) (ownL_mk_flat (by simp)))
  refine WL.r (by rfl) (Yr.appendS (s := (⟨[], some ⟨b7, 0, none⟩, _⟩ : Sl Str)) (F := [b7]) (r := p.images) hs elt53 (by repeat (first | exact Sel.nil | (apply Sel.cons; (repeat (first | exact Ext.here | apply Ext.there))))) (by rfl) (by rfl) (Ph.old h_p.images hs) (by have h1 := h_p.scripts.lt; have h2 := h_p.styles.lt; have h3 := h_p.images.lt; simp; unfold maxLen; omega) (by simp only [TPolicy.size, strsz, lsz] at hb; simp; omega)) ?_
  clear hs; rintro _ w ⟨s8, F8, rfl, hl8, hs⟩
  refine WL.p (by rfl) (Yl.fieldAddr fa63_3 (by rfl)) ?_
  refine WL.s (Yr.storeB hs (by rfl) (by rfl) (by rfl) (by repeat (first | exact Repl.here | apply Repl.there)) (by repeat (first | (apply SetAt.here; repeat (first | exact Over.nil | apply Over.cons)) | apply SetAt.there)) (by rfl) (by exact szf53)) ?_
  clear hs; rintro _ w hs
  refine WL.next ?_
  refine WC.seq ?_
  refine WL.p (by rfl) (Yl.loadAB agg63 (by rfl) hs (by repeat (first | exact List.mem_cons_self | apply List.mem_cons_of_mem)) (by rfl) (by rfl)) ?_
  refine WL.s (Yr.storeB hs (by rfl) (by rfl) (by rfl) (by repeat (first | exact Repl.here | apply Repl.there)) (by repeat (first | (apply SetAt.here; repeat (first | exact Over.nil | apply Over.cons)) | apply SetAt.there)) (by rfl) (by exact szf63)) ?_
  clear hs; rintro _ w hs
  refine WL.next ?_
  refine WC.ret ?_
  refine fin1c rfl agg63 (by rfl) hs (by repeat (first | exact List.mem_cons_self | apply List.mem_cons_of_mem)) (by rfl) ?_
  refine Ret.mk hs ?_
  refine ⟨⟨_, s4, s6, s8, _⟩, rfl, ?_, ?_⟩
  · simp_all
  · exact (PPolicy.join _ (hs.only (D := [ow s4 F4, ow s6 F6, ow s8 F8]) (by repeat (first | exact Sel.nil | (apply Sel.cons; (repeat (first | exact Ext.here | apply Ext.there)))))) (by first | exact Ph.old h_p.set hs | trivial | assumption | exact Nat.zero_le _) (by first | exact Ph.old h_p.nonce hs | trivial | assumption | exact Nat.zero_le _)).fresh List.mem_cons_self

theorem c_impl_ParsePolicy (s : Str) (w : World)  (hb : s.length ≤ 1048576) (hm_ : ∃ m, w.cell? ⟨1, 0, none⟩ = some (.int .i64 m)) : Calls Tryz.prog 164 [S s].toArray w (Ret w (fun v w' => ∃ x : PPolicy, v = .tuple #[.agg (Ph.enc x).toArray, Bo (policyIs s)] ∧ x.lg = policyOf s ∧ Fresh w x w')) := by
  refine enterN 52 Tryz.func164 rfl rfl rfl ?_
  have hs := Sat.start w
  refine WC.seq ?_
  refine WL.r (by rfl) (Yr.alloc hs zt63) ?_
  clear hs; rintro _ w ⟨b1, rfl, hb, hs⟩; clear hb
  refine WL.p (by rfl) (Yl.assign (by rfl)) ?_
  refine WL.next ?_
  refine WC.seq' ?_
  refine WC.seq ?_
  refine WL.p (by rfl) (Yl.move (by rfl)) ?_
  refine WL.p (by rfl) (Yl.eqs (by rfl) (by rfl)) ?_
  refine WL.next ?_
  refine WC.condS (by rfl) (fun h1 => ?_) (fun h1 => ?_)
  ·
    replace h1 := of_decide_eq_true h1
    refine WC.seq ?_
    refine WL.p (by rfl) (Yl.build bt63 (by rfl) (by repeat (first | exact Fill.nil | (apply Fill.cons; rfl; rfl; rfl; repeat (first | (apply SetAt.here; repeat (first | exact Over.nil | apply Over.cons)) | apply SetAt.there))))) ?_
    refine WL.s (Yr.storeB hs (by rfl) (by rfl) (by rfl) (by repeat (first | exact Repl.here | apply Repl.there)) (by repeat (first | (apply SetAt.here; repeat (first | exact Over.nil | apply Over.cons)) | apply SetAt.there)) (by rfl) (by exact szf63)) ?_
    clear hs; rintro _ w hs
    refine WL.p (by rfl) (Yl.assign (by rfl)) ?_
    refine WL.next ?_
    refine WC.ret ?_
    refine At.thenret ?_
    refine fin2c rfl agg63 (by rfl) (by rfl) hs (by repeat (first | exact List.mem_cons_self | apply List.mem_cons_of_mem)) (by rfl) ?_
    refine Ret.mk hs ?_
    have hb9 : policyIs s = true := policyIs_nil h1
    exact ⟨⟨false, ⟨[], none, 0⟩, ⟨[], none, 0⟩, ⟨[], none, 0⟩, []⟩, by rw [hb9]; rfl, (policyOf_no (.inl h1)).symm, ⟨⟨[], PPolicy.zown _, .nil, fun b h => by cases h⟩⟩⟩
  ·
    replace h1 := of_decide_eq_false h1
    refine WC.skipn ?_
    refine WC.seq ?_
    refine WL.p (by rfl) (Yl.move (by rfl)) ?_
    refine WL.call hs (by rfl) (Yc.func (by rfl) fn198) (c_strings_Split _ _ _ (by first | assumption | omega | (simp only [lsz] at *; omega) | (simp only [lsz, strsz, TPolicy.size, TCache.size, TAddr.size, TRequest.size, TEntry.size, TResponse.size, TLine.size] at *; omega) | (simp only [lsz_map, TPage.size, TBuilder.size, TNode.size, TToken.size, TTokenizer.size, TServer.size, TFile.size, TNet.size, TCache.size, TSheet.size, strsz] at *; omega) | (simp only [lsz_map, TPage.size, TBuilder.size, TNode.size, TToken.size, TTokenizer.size, TServer.size, TFile.size, TNet.size, TCache.size, TSheet.size, strsz, lsz] at *; omega)) (by rfl) (by first | assumption | exact Sat.cellm hs (by assumption))) ?_
    have hs0 := hs; clear hs; intro v w hb hR hs; clear hs
    obtain ⟨x2, rfl, hx2, hf2⟩ := hR
    obtain ⟨F2, hs⟩ := hf2.sat hs0 hb; clear hs0 hf2
    have hle2 := Sl.Ok.le (hs.okow (x := x2) (F := F2) (by repeat (first | exact List.mem_cons_self | apply List.mem_cons_of_mem)))
    refine WL.p (by rfl) (Yl.assign (by rfl)) ?_
    refine WL.next ?_
    refine WC.seq' ?_
    refine WC.seq ?_
    refine WL.p (by rfl) (Yl.move (by rfl)) ?_
    refine WL.p (by rfl) (Yl.len_sl slu53 (by rfl)) ?_
    refine WL.p (by rfl) (Yl.lss (by rfl) (by rfl)) ?_
    refine WL.next ?_
    refine WC.condS (by rfl) (fun h2 => ?_) (fun h2 => ?_)
    ·
      replace h2 := of_decide_eq_true h2
      refine WC.seq ?_
      refine WL.p (by rfl) (Yl.build bt63 (by rfl) (by repeat (first | exact Fill.nil | (apply Fill.cons; rfl; rfl; rfl; repeat (first | (apply SetAt.here; repeat (first | exact Over.nil | apply Over.cons)) | apply SetAt.there))))) ?_
      refine WL.s (Yr.storeB hs (by rfl) (by rfl) (by rfl) (by repeat (first | exact Repl.here | apply Repl.there)) (by repeat (first | (apply SetAt.here; repeat (first | exact Over.nil | apply Over.cons)) | apply SetAt.there)) (by rfl) (by exact szf63)) ?_
      clear hs; rintro _ w hs
      refine WL.p (by rfl) (Yl.assign (by rfl)) ?_
      refine WL.next ?_
      refine WC.ret ?_
      refine At.thenret ?_
      refine fin2c rfl agg63 (by rfl) (by rfl) hs (by repeat (first | exact List.mem_cons_self | apply List.mem_cons_of_mem)) (by rfl) ?_
      refine Ret.mk hs ?_
      have hb9 : policyIs s = false := policyIs_short h1 (by rw [← show x2.l = splitC 59 s from hx2]; omega)
      exact ⟨⟨false, ⟨[], none, 0⟩, ⟨[], none, 0⟩, ⟨[], none, 0⟩, []⟩, by rw [hb9]; rfl, (policyOf_no (.inr hb9)).symm, ⟨⟨[], PPolicy.zown _, .nil, fun b h => by cases h⟩⟩⟩
    ·
      replace h2 := of_decide_eq_false h2
      have h39 := getD_len (s := s) (i := 3)
      rw [← show x2.l = splitC 59 s from hx2] at h39
      refine WC.skipn ?_
      refine WC.seq ?_
      refine WL.p (by rfl) (Yl.buildArr arr239 szf53 zt239) ?_
      refine WL.r (by rfl) (Yr.alloc hs zt239) ?_
      clear hs; rintro _ w ⟨b3, rfl, hb, hs⟩; clear hb
      refine WL.s (Yr.storeB hs (by rfl) (by rfl) (by rfl) (by repeat (first | exact Repl.here | apply Repl.there)) (by repeat (first | (apply SetAt.here; repeat (first | exact Over.nil | apply Over.cons)) | apply SetAt.there)) (by rfl) (by exact szf239)) ?_
      clear hs; rintro _ w hs
      refine WL.next ?_
      refine WC.seq' ?_
      refine WC.seq ?_
      refine WL.p (by rfl) (Yl.move (by rfl)) ?_
      refine WL.next ?_
      refine WC.block ?_
      refine WC.loopN 4 ?_
      refine WR.succ ?_
      refine WC.seq ?_
      refine WL.p (by rfl) (Yl.lss (by rfl) (by rfl)) ?_
      refine WL.next ?_
      refine WC.seq' ?_
      refine WC.condT (by rfl) ?_
      refine WC.skipn ?_
      refine WC.seq' ?_
      refine WC.block ?_
      refine WC.seq ?_
      refine WL.p (by rfl) (Yl.move (by rfl)) ?_
      refine WL.p (by rfl) (Yl.assign (by rfl)) ?_
      refine WL.next ?_
      refine WC.region ?_
      refine WL.p (by rfl) (Yl.move (by rfl)) ?_
      refine WL.p (by rfl) (Yl.move (by rfl)) ?_
      refine WL.p (by rfl) (Yl.move (by rfl)) ?_
      refine WL.p (by rfl) (Yl.indexAddr (k := 0) slt53 (by rfl) (by rfl) (hs.okow (x := x2) (F := F2) (by repeat (first | exact List.mem_cons_self | apply List.mem_cons_of_mem))) (by rfl) ((getD_some (i := 0) (z := ([] : Str)) (by omega)))) ?_
      refine WL.p (by rfl) (Yl.loadC0 sca9 (by rfl) (Sl.Ok.at_ (hs.okow (x := x2) (F := F2) (by repeat (first | exact List.mem_cons_self | apply List.mem_cons_of_mem))) ((getD_some (i := 0) (z := ([] : Str)) (by omega)))).2 (by rfl)) ?_
      refine WL.call hs (by rfl) (Yc.func (by rfl) fn198) (c_strings_Split _ _ _ (by first | (have := getD_len (s := s) (i := 0); rw [← show x2.l = splitC 59 s from hx2] at this; omega) | (have := getD_len (s := s) (i := 1); rw [← show x2.l = splitC 59 s from hx2] at this; omega) | (have := getD_len (s := s) (i := 2); rw [← show x2.l = splitC 59 s from hx2] at this; omega) | (have := getD_len (s := s) (i := 3); rw [← show x2.l = splitC 59 s from hx2] at this; omega)) (by rfl) (by first | assumption | exact Sat.cellm hs (by assumption))) ?_
      have hs0 := hs; clear hs; intro v w hb hR hs; clear hs
      obtain ⟨x4, rfl, hx4, hf4⟩ := hR
      obtain ⟨F4, hs⟩ := hf4.sat hs0 hb; clear hs0 hf4
      have hle4 := Sl.Ok.le (hs.okow (x := x4) (F := F4) (by repeat (first | exact List.mem_cons_self | apply List.mem_cons_of_mem)))
      refine WL.p (by rfl) (Yl.slice_sl (s := x4) (l := 1) (h := x4.l.length) slt53 (by rfl) hle4 (by exact ⟨_, by rfl⟩) (by exact rfl) (by rw [hx4]; exact List.length_pos_iff.2 (splitC_ne _ _)) (by exact Nat.le_refl _)) ?_
      refine WL.p (by rfl) (Yl.indexArr (i := 0) arr239 szf53 (by rfl) (by rfl) (by rfl) (by decide)) ?_
      refine WL.s (Yr.storeB hs (by rfl) (by rfl) (by rfl) (by repeat (first | exact Repl.here | apply Repl.there)) (by repeat (first | (apply SetAt.here; repeat (first | exact Over.nil | apply Over.cons)) | apply SetAt.there)) (by rfl) (by exact szf53)) ?_
      clear hs; rintro _ w hs
      refine WL.nil ?_
      refine At.blocknormal ?_
      refine At.then_ ?_
      refine WC.region ?_
      refine WL.p (by rfl) (Yl.add (by rfl) (by rfl) (by omega)) ?_
      refine WL.p (by rfl) (Yl.move (by rfl)) ?_
      refine WL.nil ?_
      refine At.roundN ?_
      refine WR.succ ?_
      refine WC.seq ?_
      refine WL.p (by rfl) (Yl.lss (by rfl) (by rfl)) ?_
      refine WL.next ?_
      refine WC.seq' ?_
      refine WC.condT (by rfl) ?_
      refine WC.skipn ?_
      refine WC.seq' ?_
      refine WC.block ?_
      refine WC.seq ?_
      refine WL.p (by rfl) (Yl.move (by rfl)) ?_
      refine WL.p (by rfl) (Yl.assign (by rfl)) ?_
      refine WL.next ?_
      refine WC.region ?_
      refine WL.p (by rfl) (Yl.move (by rfl)) ?_
      refine WL.p (by rfl) (Yl.move (by rfl)) ?_
      refine WL.p (by rfl) (Yl.move (by rfl)) ?_
      refine WL.p (by rfl) (Yl.indexAddr (k := 1) slt53 (by rfl) (by rfl) (hs.okow (x := x2) (F := F2) (by repeat (first | exact List.mem_cons_self | apply List.mem_cons_of_mem))) (by rfl) ((getD_some (i := 1) (z := ([] : Str)) (by omega)))) ?_
      refine WL.p (by rfl) (Yl.loadC0 sca9 (by rfl) (Sl.Ok.at_ (hs.okow (x := x2) (F := F2) (by repeat (first | exact List.mem_cons_self | apply List.mem_cons_of_mem))) ((getD_some (i := 1) (z := ([] : Str)) (by omega)))).2 (by rfl)) ?_
      refine WL.call hs (by rfl) (Yc.func (by rfl) fn198) (c_strings_Split _ _ _ (by first | (have := getD_len (s := s) (i := 0); rw [← show x2.l = splitC 59 s from hx2] at this; omega) | (have := getD_len (s := s) (i := 1); rw [← show x2.l = splitC 59 s from hx2] at this; omega) | (have := getD_len (s := s) (i := 2); rw [← show x2.l = splitC 59 s from hx2] at this; omega) | (have := getD_len (s := s) (i := 3); rw [← show x2.l = splitC 59 s from hx2] at this; omega)) (by rfl) (by first | assumption | exact Sat.cellm hs (by assumption))) ?_
      have hs0 := hs; clear hs; intro v w hb hR hs; clear hs
      obtain ⟨x5, rfl, hx5, hf5⟩ := hR
      obtain ⟨F5, hs⟩ := hf5.sat hs0 hb; clear hs0 hf5
      have hle5 := Sl.Ok.le (hs.okow (x := x5) (F := F5) (by repeat (first | exact List.mem_cons_self | apply List.mem_cons_of_mem)))
      refine WL.p (by rfl) (Yl.slice_sl (s := x5) (l := 1) (h := x5.l.length) slt53 (by rfl) hle5 (by exact ⟨_, by rfl⟩) (by exact rfl) (by rw [hx5]; exact List.length_pos_iff.2 (splitC_ne _ _)) (by exact Nat.le_refl _)) ?_
      refine WL.p (by rfl) (Yl.indexArr (i := 1) arr239 szf53 (by rfl) (by rfl) (by rfl) (by decide)) ?_
      refine WL.s (Yr.storeB hs (by rfl) (by rfl) (by rfl) (by repeat (first | exact Repl.here | apply Repl.there)) (by repeat (first | (apply SetAt.here; repeat (first | exact Over.nil | apply Over.cons)) | apply SetAt.there)) (by rfl) (by exact szf53)) ?_
      clear hs; rintro _ w hs
      refine WL.nil ?_
      refine At.blocknormal ?_
      refine At.then_ ?_
      refine WC.region ?_
      refine WL.p (by rfl) (Yl.add (by rfl) (by rfl) (by omega)) ?_
      refine WL.p (by rfl) (Yl.move (by rfl)) ?_
      refine WL.nil ?_
      refine At.roundN ?_
      refine WR.succ ?_
      refine WC.seq ?_
      refine WL.p (by rfl) (Yl.lss (by rfl) (by rfl)) ?_
      refine WL.next ?_
      refine WC.seq' ?_
      refine WC.condT (by rfl) ?_
      refine WC.skipn ?_
      refine WC.seq' ?_
      refine WC.block ?_
      refine WC.seq ?_
      refine WL.p (by rfl) (Yl.move (by rfl)) ?_
      refine WL.p (by rfl) (Yl.assign (by rfl)) ?_
      refine WL.next ?_
      refine WC.region ?_
      refine WL.p (by rfl) (Yl.move (by rfl)) ?_
      refine WL.p (by rfl) (Yl.move (by rfl)) ?_
      refine WL.p (by rfl) (Yl.move (by rfl)) ?_
      refine WL.p (by rfl) (Yl.indexAddr (k := 2) slt53 (by rfl) (by rfl) (hs.okow (x := x2) (F := F2) (by repeat (first | exact List.mem_cons_self | apply List.mem_cons_of_mem))) (by rfl) ((getD_some (i := 2) (z := ([] : Str)) (by omega)))) ?_
      refine WL.p (by rfl) (Yl.loadC0 sca9 (by rfl) (Sl.Ok.at_ (hs.okow (x := x2) (F := F2) (by repeat (first | exact List.mem_cons_self | apply List.mem_cons_of_mem))) ((getD_some (i := 2) (z := ([] : Str)) (by omega)))).2 (by rfl)) ?_
      refine WL.call hs (by rfl) (Yc.func (by rfl) fn198) (c_strings_Split _ _ _ (by first | (have := getD_len (s := s) (i := 0); rw [← show x2.l = splitC 59 s from hx2] at this; omega) | (have := getD_len (s := s) (i := 1); rw [← show x2.l = splitC 59 s from hx2] at this; omega) | (have := getD_len (s := s) (i := 2); rw [← show x2.l = splitC 59 s from hx2] at this; omega) | (have := getD_len (s := s) (i := 3); rw [← show x2.l = splitC 59 s from hx2] at this; omega)) (by rfl) (by first | assumption | exact Sat.cellm hs (by assumption))) ?_
      have hs0 := hs; clear hs; intro v w hb hR hs; clear hs
      obtain ⟨x6, rfl, hx6, hf6⟩ := hR
      obtain ⟨F6, hs⟩ := hf6.sat hs0 hb; clear hs0 hf6
      have hle6 := Sl.Ok.le (hs.okow (x := x6) (F := F6) (by repeat (first | exact List.mem_cons_self | apply List.mem_cons_of_mem)))
      refine WL.p (by rfl) (Yl.slice_sl (s := x6) (l := 1) (h := x6.l.length) slt53 (by rfl) hle6 (by exact ⟨_, by rfl⟩) (by exact rfl) (by rw [hx6]; exact List.length_pos_iff.2 (splitC_ne _ _)) (by exact Nat.le_refl _)) ?_
      refine WL.p (by rfl) (Yl.indexArr (i := 2) arr239 szf53 (by rfl) (by rfl) (by rfl) (by decide)) ?_
      refine WL.s (Yr.storeB hs (by rfl) (by rfl) (by rfl) (by repeat (first | exact Repl.here | apply Repl.there)) (by repeat (first | (apply SetAt.here; repeat (first | exact Over.nil | apply Over.cons)) | apply SetAt.there)) (by rfl) (by exact szf53)) ?_
      clear hs; rintro _ w hs
      refine WL.nil ?_
      refine At.blocknormal ?_
      refine At.then_ ?_
      refine WC.region ?_
      refine WL.p (by rfl) (Yl.add (by rfl) (by rfl) (by omega)) ?_
      refine WL.p (by rfl) (Yl.move (by rfl)) ?_
      refine WL.nil ?_
      refine At.roundN ?_
      refine WR.succ ?_
      refine WC.seq ?_
      refine WL.p (by rfl) (Yl.lss (by rfl) (by rfl)) ?_
      refine WL.next ?_
      refine WC.seq' ?_
      refine WC.condF (by rfl) ?_
      refine WC.exit ?_
      refine At.thenexit ?_
      refine At.thenexit ?_
      refine At.blockexit ?_
      refine At.then_ ?_
      refine WC.seq ?_
      refine WL.p (by rfl) (Yl.indexArr (i := 0) arr239 szf53 (by rfl) (by rfl) (by rfl) (by decide)) ?_
      refine WL.p (by rfl) (Yl.loadB sca53 (by rfl) hs (by repeat (first | exact List.mem_cons_self | apply List.mem_cons_of_mem)) (by rfl)) ?_
      refine WL.p (by rfl) (Yl.indexArr (i := 1) arr239 szf53 (by rfl) (by rfl) (by rfl) (by decide)) ?_
      refine WL.p (by rfl) (Yl.loadB sca53 (by rfl) hs (by repeat (first | exact List.mem_cons_self | apply List.mem_cons_of_mem)) (by rfl)) ?_
      refine WL.p (by rfl) (Yl.indexArr (i := 2) arr239 szf53 (by rfl) (by rfl) (by rfl) (by decide)) ?_
      refine WL.p (by rfl) (Yl.loadB sca53 (by rfl) hs (by repeat (first | exact List.mem_cons_self | apply List.mem_cons_of_mem)) (by rfl)) ?_
      refine WL.p (by rfl) (Yl.build bt63 (by rfl) (by repeat (first | exact Fill.nil | (apply Fill.cons; rfl; rfl; rfl; repeat (first | (apply SetAt.here; repeat (first | exact Over.nil | apply Over.cons)) | apply SetAt.there))))) ?_
      refine WL.r (by rfl) (Yr.alloc hs zt63) ?_
      clear hs; rintro _ w ⟨b7, rfl, hb, hs⟩; clear hb
      refine WL.s (Yr.storeB hs (by rfl) (by rfl) (by rfl) (by repeat (first | exact Repl.here | apply Repl.there)) (by repeat (first | (apply SetAt.here; repeat (first | exact Over.nil | apply Over.cons)) | apply SetAt.there)) (by rfl) (by exact szf63)) ?_
      clear hs; rintro _ w hs
      refine WL.next ?_
      refine WC.seq' ?_
      refine WC.seq ?_
      refine WL.p (by rfl) (Yl.move (by rfl)) ?_
      refine WL.p (by rfl) (Yl.len_sl slu53 (by rfl)) ?_
      refine WL.p (by rfl) (Yl.gtr (by rfl) (by rfl)) ?_
      refine WL.next ?_
      refine WC.condS (by rfl) (fun h3 => ?_) (fun h3 => ?_)
      ·
        replace h3 := of_decide_eq_true h3
        refine WC.region ?_
        refine WL.p (by rfl) (Yl.move (by rfl)) ?_
        refine WL.p (by rfl) (Yl.indexAddr (k := 3) slt53 (by rfl) (by rfl) (hs.okow (x := x2) (F := F2) (by repeat (first | exact List.mem_cons_self | apply List.mem_cons_of_mem))) (by rfl) ((getD_some (i := 3) (z := ([] : Str)) (by omega)))) ?_
        refine WL.p (by rfl) (Yl.loadC0 sca9 (by rfl) (Sl.Ok.at_ (hs.okow (x := x2) (F := F2) (by repeat (first | exact List.mem_cons_self | apply List.mem_cons_of_mem))) ((getD_some (i := 3) (z := ([] : Str)) (by omega)))).2 (by rfl)) ?_
        refine WL.callp hs (by rfl) (Yc.func (by rfl) fn199) (c_strings_TrimPrefix _ _ _) ?_
        clear hs; intro w hs
        refine WL.p (by rfl) (Yl.fieldAddr fa63_4 (by rfl)) ?_
        refine WL.s (Yr.storeB hs (by rfl) (by rfl) (by rfl) (by repeat (first | exact Repl.here | apply Repl.there)) (by repeat (first | (apply SetAt.here; repeat (first | exact Over.nil | apply Over.cons)) | apply SetAt.there)) (by rfl) (by exact szf9)) ?_
        clear hs; rintro _ w hs
        refine WL.nil ?_
        refine At.then_ ?_
        refine WC.seq' ?_
        refine WC.seq ?_
        refine WL.p (by rfl) (Yl.loadAB agg63 (by rfl) hs (by repeat (first | exact List.mem_cons_self | apply List.mem_cons_of_mem)) (by rfl) (by rfl)) ?_
        have hpl9 : PPolicy.lg (⟨true, (x4.cut 1 x4.l.length), (x5.cut 1 x5.l.length), (x6.cut 1 x6.l.length), (nonceI (x2.l.getD 3 []))⟩ : PPolicy) = polI s := by
          have e2 : x2.l = splitC 59 s := hx2
          have g0 : x4.l = splitC 32 ((splitC 59 s).getD 0 []) := by rw [← e2]; exact hx4
          have g1 : x5.l = splitC 32 ((splitC 59 s).getD 1 []) := by rw [← e2]; exact hx5
          have g2 : x6.l = splitC 32 ((splitC 59 s).getD 2 []) := by rw [← e2]; exact hx6
          have c0 : (x4.cut 1 x4.l.length).l = (splitC 32 ((splitC 59 s).getD 0 [])).tail := by rw [Sl.cut_full, g0, List.drop_one]
          have c1 : (x5.cut 1 x5.l.length).l = (splitC 32 ((splitC 59 s).getD 1 [])).tail := by rw [Sl.cut_full, g1, List.drop_one]
          have c2 : (x6.cut 1 x6.l.length).l = (splitC 32 ((splitC 59 s).getD 2 [])).tail := by rw [Sl.cut_full, g2, List.drop_one]
          simp only [PPolicy.lg, polI, polOf, c0, c1, c2, TPolicy.mk.injEq, true_and]
          rw [← e2]
          first
            | (rw [if_neg (show ¬ 3 < x2.l.length from fun h => by omega)]; done)
            | (rw [if_pos (show 3 < x2.l.length from Int.ofNat_lt.1 (by omega))]; done)
            | (rw [if_pos (show 3 < x2.l.length from Int.ofNat_lt.1 (by omega))]
               simp only [nonceS, nonceI]
               first
                 | (rfl; done)
                 | (rw [if_neg (by omega)]; done)
                 | (rw [if_pos (by omega), List.take_of_length_le (by simp)]; done)
                 | (rw [if_pos (by omega)]; done))
        refine WL.callp hs (by rfl) (Yc.func (by rfl) fn200) (c_impl_FormatPolicy (⟨true, (x4.cut 1 x4.l.length), (x5.cut 1 x5.l.length), (x6.cut 1 x6.l.length), (nonceI (x2.l.getD 3 []))⟩ : PPolicy) _ ⟨trivial, (Sl.Ok.cut (hs.okow (x := x4) (F := F4) (by repeat (first | exact List.mem_cons_self | apply List.mem_cons_of_mem))) (by rw [hx4]; exact List.length_pos_iff.2 (splitC_ne _ _)) (by exact Nat.le_refl _)), (Sl.Ok.cut (hs.okow (x := x5) (F := F5) (by repeat (first | exact List.mem_cons_self | apply List.mem_cons_of_mem))) (by rw [hx5]; exact List.length_pos_iff.2 (splitC_ne _ _)) (by exact Nat.le_refl _)), (Sl.Ok.cut (hs.okow (x := x6) (F := F6) (by repeat (first | exact List.mem_cons_self | apply List.mem_cons_of_mem))) (by rw [hx6]; exact List.length_pos_iff.2 (splitC_ne _ _)) (by exact Nat.le_refl _)), (show WfS _ from Nat.le_trans (nonceI_len _) (by omega))⟩ (by rw [hpl9]; have := polI_size (s := s) (by rw [← show x2.l = splitC 59 s from hx2]; omega); omega)) ?_
        clear hs; intro w hs
        refine WL.p (by rfl) (Yl.move (by rfl)) ?_
        refine WL.p (by rfl) (Yl.nes (by rfl) (by rfl)) ?_
        refine WL.next ?_
        refine WC.condS (by rfl) (fun h4 => ?_) (fun h4 => ?_)
        ·
          replace h4 := not_eq_true h4
          replace h4 := of_decide_eq_false h4
          refine WC.seq ?_
          refine WL.p (by rfl) (Yl.build bt63 (by rfl) (by repeat (first | exact Fill.nil | (apply Fill.cons; rfl; rfl; rfl; repeat (first | (apply SetAt.here; repeat (first | exact Over.nil | apply Over.cons)) | apply SetAt.there))))) ?_
          refine WL.s (Yr.storeB hs (by rfl) (by rfl) (by rfl) (by repeat (first | exact Repl.here | apply Repl.there)) (by repeat (first | (apply SetAt.here; repeat (first | exact Over.nil | apply Over.cons)) | apply SetAt.there)) (by rfl) (by exact szf63)) ?_
          clear hs; rintro _ w hs
          refine WL.p (by rfl) (Yl.assign (by rfl)) ?_
          refine WL.next ?_
          refine WC.ret ?_
          refine At.thenret ?_
          refine fin2c rfl agg63 (by rfl) (by rfl) hs (by repeat (first | exact List.mem_cons_self | apply List.mem_cons_of_mem)) (by rfl) ?_
          refine Ret.mk hs ?_
          rw [hpl9] at h4
          have hb9 : policyIs s = false := policyIs_badI h1 h4
          exact ⟨⟨false, ⟨[], none, 0⟩, ⟨[], none, 0⟩, ⟨[], none, 0⟩, []⟩, by rw [hb9]; rfl, (policyOf_no (.inr hb9)).symm, ⟨⟨[], PPolicy.zown _, .nil, fun b h => by cases h⟩⟩⟩
        ·
          replace h4 := not_eq_false h4
          replace h4 := of_decide_eq_true h4
          refine WC.skipn ?_
          refine WC.seq ?_
          refine WL.p (by rfl) (Yl.loadAB agg63 (by rfl) hs (by repeat (first | exact List.mem_cons_self | apply List.mem_cons_of_mem)) (by rfl) (by rfl)) ?_
          refine WL.call hs (by rfl) (Yc.func (by rfl) fn201) (c_impl_copyPolicy (⟨true, (x4.cut 1 x4.l.length), (x5.cut 1 x5.l.length), (x6.cut 1 x6.l.length), (nonceI (x2.l.getD 3 []))⟩ : PPolicy) _ ⟨trivial, (Sl.Ok.cut (hs.okow (x := x4) (F := F4) (by repeat (first | exact List.mem_cons_self | apply List.mem_cons_of_mem))) (by rw [hx4]; exact List.length_pos_iff.2 (splitC_ne _ _)) (by exact Nat.le_refl _)), (Sl.Ok.cut (hs.okow (x := x5) (F := F5) (by repeat (first | exact List.mem_cons_self | apply List.mem_cons_of_mem))) (by rw [hx5]; exact List.length_pos_iff.2 (splitC_ne _ _)) (by exact Nat.le_refl _)), (Sl.Ok.cut (hs.okow (x := x6) (F := F6) (by repeat (first | exact List.mem_cons_self | apply List.mem_cons_of_mem))) (by rw [hx6]; exact List.length_pos_iff.2 (splitC_ne _ _)) (by exact Nat.le_refl _)), (show WfS _ from Nat.le_trans (nonceI_len _) (by omega))⟩ (by rw [hpl9]; have := polI_size (s := s) (by rw [← show x2.l = splitC 59 s from hx2]; omega); omega)) ?_
          have hs0 := hs; clear hs; intro v w hb hR hs; clear hs
          obtain ⟨x8, rfl, hx8, hf8⟩ := hR
          obtain ⟨F8, hs⟩ := hf8.sat hs0 hb; clear hs0 hf8
          refine WL.s (Yr.storeB hs (by rfl) (by rfl) (by rfl) (by repeat (first | exact Repl.here | apply Repl.there)) (by repeat (first | (apply SetAt.here; repeat (first | exact Over.nil | apply Over.cons)) | apply SetAt.there)) (by rfl) (by exact szf63)) ?_
          clear hs; rintro _ w hs
          refine WL.p (by rfl) (Yl.assign (by rfl)) ?_
          refine WL.next ?_
          refine WC.ret ?_
          refine fin2c rfl agg63 (by rfl) (by rfl) hs (by repeat (first | exact List.mem_cons_self | apply List.mem_cons_of_mem)) (by rfl) ?_
          refine Ret.mk hs ?_
          rw [hpl9] at h4
          have hq9 : x2.l = splitC 59 s := hx2
          have h49 : 3 ≤ (splitC 59 s).length := by rw [← hq9]; omega
          have hb9 : policyIs s = true := policyIs_goodI h1 h4 h49
          exact ⟨x8, by rw [hb9]; try rfl, hx8.trans (hpl9.trans (policyOf_goodI h1 hb9 h4).symm), hs.fresh (by repeat (first | exact List.mem_cons_self | apply List.mem_cons_of_mem))⟩
      ·
        replace h3 := of_decide_eq_false h3
        refine WC.skipn ?_
        refine WC.seq' ?_
        refine WC.seq ?_
        refine WL.p (by rfl) (Yl.loadAB agg63 (by rfl) hs (by repeat (first | exact List.mem_cons_self | apply List.mem_cons_of_mem)) (by rfl) (by rfl)) ?_
        have hpl9 : PPolicy.lg (⟨true, (x4.cut 1 x4.l.length), (x5.cut 1 x5.l.length), (x6.cut 1 x6.l.length), ([] : Str)⟩ : PPolicy) = polI s := by
          have e2 : x2.l = splitC 59 s := hx2
          have g0 : x4.l = splitC 32 ((splitC 59 s).getD 0 []) := by rw [← e2]; exact hx4
          have g1 : x5.l = splitC 32 ((splitC 59 s).getD 1 []) := by rw [← e2]; exact hx5
          have g2 : x6.l = splitC 32 ((splitC 59 s).getD 2 []) := by rw [← e2]; exact hx6
          have c0 : (x4.cut 1 x4.l.length).l = (splitC 32 ((splitC 59 s).getD 0 [])).tail := by rw [Sl.cut_full, g0, List.drop_one]
          have c1 : (x5.cut 1 x5.l.length).l = (splitC 32 ((splitC 59 s).getD 1 [])).tail := by rw [Sl.cut_full, g1, List.drop_one]
          have c2 : (x6.cut 1 x6.l.length).l = (splitC 32 ((splitC 59 s).getD 2 [])).tail := by rw [Sl.cut_full, g2, List.drop_one]
          simp only [PPolicy.lg, polI, polOf, c0, c1, c2, TPolicy.mk.injEq, true_and]
          rw [← e2]
          first
            | (rw [if_neg (show ¬ 3 < x2.l.length from fun h => by omega)]; done)
            | (rw [if_pos (show 3 < x2.l.length from Int.ofNat_lt.1 (by omega))]; done)
            | (rw [if_pos (show 3 < x2.l.length from Int.ofNat_lt.1 (by omega))]
               simp only [nonceS, nonceI]
               first
                 | (rfl; done)
                 | (rw [if_neg (by omega)]; done)
                 | (rw [if_pos (by omega), List.take_of_length_le (by simp)]; done)
                 | (rw [if_pos (by omega)]; done))
        refine WL.callp hs (by rfl) (Yc.func (by rfl) fn200) (c_impl_FormatPolicy (⟨true, (x4.cut 1 x4.l.length), (x5.cut 1 x5.l.length), (x6.cut 1 x6.l.length), ([] : Str)⟩ : PPolicy) _ ⟨trivial, (Sl.Ok.cut (hs.okow (x := x4) (F := F4) (by repeat (first | exact List.mem_cons_self | apply List.mem_cons_of_mem))) (by rw [hx4]; exact List.length_pos_iff.2 (splitC_ne _ _)) (by exact Nat.le_refl _)), (Sl.Ok.cut (hs.okow (x := x5) (F := F5) (by repeat (first | exact List.mem_cons_self | apply List.mem_cons_of_mem))) (by rw [hx5]; exact List.length_pos_iff.2 (splitC_ne _ _)) (by exact Nat.le_refl _)), (Sl.Ok.cut (hs.okow (x := x6) (F := F6) (by repeat (first | exact List.mem_cons_self | apply List.mem_cons_of_mem))) (by rw [hx6]; exact List.length_pos_iff.2 (splitC_ne _ _)) (by exact Nat.le_refl _)), (show WfS [] from Nat.zero_le _)⟩ (by rw [hpl9]; have := polI_size (s := s) (by rw [← show x2.l = splitC 59 s from hx2]; omega); omega)) ?_
        clear hs; intro w hs
        refine WL.p (by rfl) (Yl.move (by rfl)) ?_
        refine WL.p (by rfl) (Yl.nes (by rfl) (by rfl)) ?_
        refine WL.next ?_
        refine WC.condS (by rfl) (fun h4 => ?_) (fun h4 => ?_)
        ·
          replace h4 := not_eq_true h4
          replace h4 := of_decide_eq_false h4
          refine WC.seq ?_
          refine WL.p (by rfl) (Yl.build bt63 (by rfl) (by repeat (first | exact Fill.nil | (apply Fill.cons; rfl; rfl; rfl; repeat (first | (apply SetAt.here; repeat (first | exact Over.nil | apply Over.cons)) | apply SetAt.there))))) ?_
          refine WL.s (Yr.storeB hs (by rfl) (by rfl) (by rfl) (by repeat (first | exact Repl.here | apply Repl.there)) (by repeat (first | (apply SetAt.here; repeat (first | exact Over.nil | apply Over.cons)) | apply SetAt.there)) (by rfl) (by exact szf63)) ?_
          clear hs; rintro _ w hs
          refine WL.p (by rfl) (Yl.assign (by rfl)) ?_
          refine WL.next ?_
          refine WC.ret ?_
          refine At.thenret ?_
          refine fin2c rfl agg63 (by rfl) (by rfl) hs (by repeat (first | exact List.mem_cons_self | apply List.mem_cons_of_mem)) (by rfl) ?_
          refine Ret.mk hs ?_
          rw [hpl9] at h4
          have hb9 : policyIs s = false := policyIs_badI h1 h4
          exact ⟨⟨false, ⟨[], none, 0⟩, ⟨[], none, 0⟩, ⟨[], none, 0⟩, []⟩, by rw [hb9]; rfl, (policyOf_no (.inr hb9)).symm, ⟨⟨[], PPolicy.zown _, .nil, fun b h => by cases h⟩⟩⟩
        ·
          replace h4 := not_eq_false h4
          replace h4 := of_decide_eq_true h4
          refine WC.skipn ?_
          refine WC.seq ?_
          refine WL.p (by rfl) (Yl.loadAB agg63 (by rfl) hs (by repeat (first | exact List.mem_cons_self | apply List.mem_cons_of_mem)) (by rfl) (by rfl)) ?_
          refine WL.call hs (by rfl) (Yc.func (by rfl) fn201) (c_impl_copyPolicy (⟨true, (x4.cut 1 x4.l.length), (x5.cut 1 x5.l.length), (x6.cut 1 x6.l.length), ([] : Str)⟩ : PPolicy) _ ⟨trivial, (Sl.Ok.cut (hs.okow (x := x4) (F := F4) (by repeat (first | exact List.mem_cons_self | apply List.mem_cons_of_mem))) (by rw [hx4]; exact List.length_pos_iff.2 (splitC_ne _ _)) (by exact Nat.le_refl _)), (Sl.Ok.cut (hs.okow (x := x5) (F := F5) (by repeat (first | exact List.mem_cons_self | apply List.mem_cons_of_mem))) (by rw [hx5]; exact List.length_pos_iff.2 (splitC_ne _ _)) (by exact Nat.le_refl _)), (Sl.Ok.cut (hs.okow (x := x6) (F := F6) (by repeat (first | exact List.mem_cons_self | apply List.mem_cons_of_mem))) (by rw [hx6]; exact List.length_pos_iff.2 (splitC_ne _ _)) (by exact Nat.le_refl _)), (show WfS [] from Nat.zero_le _)⟩ (by rw [hpl9]; have := polI_size (s := s) (by rw [← show x2.l = splitC 59 s from hx2]; omega); omega)) ?_
          have hs0 := hs; clear hs; intro v w hb hR hs; clear hs
          obtain ⟨x9, rfl, hx9, hf9⟩ := hR
          obtain ⟨F9, hs⟩ := hf9.sat hs0 hb; clear hs0 hf9
          refine WL.s (Yr.storeB hs (by rfl) (by rfl) (by rfl) (by repeat (first | exact Repl.here | apply Repl.there)) (by repeat (first | (apply SetAt.here; repeat (first | exact Over.nil | apply Over.cons)) | apply SetAt.there)) (by rfl) (by exact szf63)) ?_
          clear hs; rintro _ w hs
          refine WL.p (by rfl) (Yl.assign (by rfl)) ?_
          refine WL.next ?_
          refine WC.ret ?_
          refine fin2c rfl agg63 (by rfl) (by rfl) hs (by repeat (first | exact List.mem_cons_self | apply List.mem_cons_of_mem)) (by rfl) ?_
          refine Ret.mk hs ?_
          rw [hpl9] at h4
          have hq9 : x2.l = splitC 59 s := hx2
          have h49 : 3 ≤ (splitC 59 s).length := by rw [← hq9]; omega
          have hb9 : policyIs s = true := policyIs_goodI h1 h4 h49
          exact ⟨x9, by rw [hb9]; try rfl, hx9.trans (hpl9.trans (policyOf_goodI h1 hb9 h4).symm), hs.fresh (by repeat (first | exact List.mem_cons_self | apply List.mem_cons_of_mem))⟩

theorem c_impl_IsResponse (x : TResponse) (w : World) (h_x : Ph.ok w x) (hb : x.policy.length ≤ 1048576) (hm_ : ∃ m, w.cell? ⟨1, 0, none⟩ = some (.int .i64 m)) : Calls Tryz.prog 98 [.agg #[I x.status, I x.kind, S x.body, I x.age, Bo x.shares, S x.policy]].toArray w (RetP w (Bo x.isv)) := by
  refine enterN 33 Tryz.func98 rfl rfl rfl ?_
  have hs := Sat.start w
  refine WC.seq ?_
  refine WL.r (by rfl) (Yr.box hs (by rfl) (by rfl)) ?_
  clear hs; rintro _ w ⟨b1, rfl, hb, hs⟩; clear hb
  refine WL.p (by rfl) (Yl.assign (by rfl)) ?_
  refine WL.next ?_
  refine WC.seq ?_
  refine WL.p (by rfl) (Yl.fieldAddr fa41_5 (by rfl)) ?_
  refine WL.p (by rfl) (Yl.loadB sca9 (by rfl) hs (by repeat (first | exact List.mem_cons_self | apply List.mem_cons_of_mem)) (by rfl)) ?_
  refine WL.call hs (by rfl) (Yc.func (by rfl) fn164) (c_impl_ParsePolicy _ _ (by first | assumption | omega | (simp only [lsz] at *; omega) | (simp only [lsz, strsz, TPolicy.size, TCache.size, TAddr.size, TRequest.size, TEntry.size, TResponse.size, TLine.size] at *; omega) | (simp only [lsz_map, TPage.size, TBuilder.size, TNode.size, TToken.size, TTokenizer.size, TServer.size, TFile.size, TNet.size, TCache.size, TSheet.size, strsz] at *; omega) | (simp only [lsz_map, TPage.size, TBuilder.size, TNode.size, TToken.size, TTokenizer.size, TServer.size, TFile.size, TNet.size, TCache.size, TSheet.size, strsz, lsz] at *; omega)) (by first | assumption | exact Sat.cellm hs (by assumption))) ?_
  have hs0 := hs; clear hs; intro v w hb hR hs; clear hs
  obtain ⟨x2, rfl, hx2, hf2⟩ := hR
  obtain ⟨F2, hs⟩ := hf2.sat hs0 hb; clear hs0 hf2
  refine WL.p (by rfl) (Yl.move (by rfl)) ?_
  refine WL.p (by rfl) (Yl.extract (by rfl) (by rfl)) ?_
  refine WL.p (by rfl) (Yl.extract (by rfl) (by rfl)) ?_
  refine WL.r (by rfl) (Yr.alloc hs zt63) ?_
  clear hs; rintro _ w ⟨b3, rfl, hb, hs⟩; clear hb
  refine WL.s (Yr.storeB hs (by rfl) (by rfl) (by rfl) (by repeat (first | exact Repl.here | apply Repl.there)) (by repeat (first | (apply SetAt.here; repeat (first | exact Over.nil | apply Over.cons)) | apply SetAt.there)) (by rfl) (by exact szf63)) ?_
  clear hs; rintro _ w hs
  refine WL.p (by rfl) (Yl.assign (by rfl)) ?_
  refine WL.next ?_
  refine WC.seq ?_
  refine WL.p (by rfl) (Yl.move (by rfl)) ?_
  refine WL.p (by rfl) (Yl.move (by rfl)) ?_
  refine WL.split (d := 12) (by rfl) (fun h1 => ?_) (fun h1 => ?_)
  ·
    refine WL.run (d := 12) (by rfl) (by rfl) ?_
    refine WL.p (by rfl) (Yl.fieldAddr fa41_0 (by rfl)) ?_
    refine WL.run (d := 12) (by rfl) (by rfl) ?_
    refine WL.p (by rfl) (Yl.loadB sca3 (by rfl) hs (by repeat (first | exact List.mem_cons_self | apply List.mem_cons_of_mem)) (by rfl)) ?_
    refine WL.run (d := 12) (by rfl) (by rfl) ?_
    refine WL.callp hs (by rfl) (Yc.func (by rfl) fn90) (c_impl_InRange _ _ _ _) ?_
    clear hs; intro w hs
    refine WL.p (by rfl) (Yl.pickT (by rfl) (by rfl)) ?_
    refine WL.p (by rfl) (Yl.move (by rfl)) ?_
    refine WL.split (d := 17) (by rfl) (fun h2 => ?_) (fun h2 => ?_)
    ·
      replace h2 := inR_true.1 h2
      refine WL.run (d := 17) (by rfl) (by rfl) ?_
      refine WL.p (by rfl) (Yl.fieldAddr fa41_1 (by rfl)) ?_
      refine WL.run (d := 17) (by rfl) (by rfl) ?_
      refine WL.p (by rfl) (Yl.loadB sca3 (by rfl) hs (by repeat (first | exact List.mem_cons_self | apply List.mem_cons_of_mem)) (by rfl)) ?_
      refine WL.run (d := 17) (by rfl) (by rfl) ?_
      refine WL.callp hs (by rfl) (Yc.func (by rfl) fn90) (c_impl_InRange _ _ _ _) ?_
      clear hs; intro w hs
      refine WL.p (by rfl) (Yl.pickT (by rfl) (by rfl)) ?_
      refine WL.p (by rfl) (Yl.move (by rfl)) ?_
      refine WL.split (d := 22) (by rfl) (fun h3 => ?_) (fun h3 => ?_)
      ·
        replace h3 := inR_true.1 h3
        refine WL.run (d := 22) (by rfl) (by rfl) ?_
        refine WL.p (by rfl) (Yl.fieldAddr fa41_2 (by rfl)) ?_
        refine WL.run (d := 22) (by rfl) (by rfl) ?_
        refine WL.p (by rfl) (Yl.loadB sca9 (by rfl) hs (by repeat (first | exact List.mem_cons_self | apply List.mem_cons_of_mem)) (by rfl)) ?_
        refine WL.run (d := 22) (by rfl) (by rfl) ?_
        refine WL.p (by rfl) (Yl.len_str str9 (by rfl)) ?_
        refine WL.run (d := 22) (by rfl) (by rfl) ?_
        refine WL.p (by rfl) (Yl.leq (by rfl) (by rfl)) ?_
        refine WL.p (by rfl) (Yl.pickT (by rfl) (by rfl)) ?_
        refine WL.p (by rfl) (Yl.move (by rfl)) ?_
        refine WL.split (d := 28) (by rfl) (fun h4 => ?_) (fun h4 => ?_)
        ·
          replace h4 := of_decide_eq_true h4
          refine WL.run (d := 28) (by rfl) (by rfl) ?_
          refine WL.p (by rfl) (Yl.fieldAddr fa41_3 (by rfl)) ?_
          refine WL.run (d := 28) (by rfl) (by rfl) ?_
          refine WL.p (by rfl) (Yl.loadB sca3 (by rfl) hs (by repeat (first | exact List.mem_cons_self | apply List.mem_cons_of_mem)) (by rfl)) ?_
          refine WL.run (d := 28) (by rfl) (by rfl) ?_
          refine WL.callp hs (by rfl) (Yc.func (by rfl) fn90) (c_impl_InRange _ _ _ _) ?_
          clear hs; intro w hs
          refine WL.p (by rfl) (Yl.pickT (by rfl) (by rfl)) ?_
          refine WL.p (by rfl) (Yl.assign (by rfl)) ?_
          refine WL.next ?_
          refine WC.ret ?_
          refine fin1' rfl (by rfl) ?_
          refine RetP.mk hs ?_
          clear hs hb h_x
          try simp only [← inR_true] at *
          try simp only [← inR_false] at *
          simp_all [TResponse.isv]
          try (intro hh; omega)
        ·
          replace h4 := of_decide_eq_false h4
          refine WL.skip (d := 28) (by rfl) (by rfl) (by rfl) (by rfl) ?_
          refine WL.skip (d := 28) (by rfl) (by rfl) (by rfl) (by rfl) ?_
          refine WL.skip (d := 28) (by rfl) (by rfl) (by rfl) (by rfl) ?_
          refine WL.p (by rfl) (Yl.pickF (by rfl) (by rfl)) ?_
          refine WL.p (by rfl) (Yl.assign (by rfl)) ?_
          refine WL.next ?_
          refine WC.ret ?_
          refine fin1' rfl (by rfl) ?_
          refine RetP.mk hs ?_
          clear hs hb h_x
          try simp only [← inR_true] at *
          try simp only [← inR_false] at *
          simp_all [TResponse.isv]
          try (intro hh; omega)
      ·
        replace h3 := inR_false.1 h3
        refine WL.skip (d := 22) (by rfl) (by rfl) (by rfl) (by rfl) ?_
        refine WL.skip (d := 22) (by rfl) (by rfl) (by rfl) (by rfl) ?_
        refine WL.skip (d := 22) (by rfl) (by rfl) (by rfl) (by rfl) ?_
        refine WL.skip (d := 22) (by rfl) (by rfl) (by rfl) (by rfl) ?_
        refine WL.p (by rfl) (Yl.pickF (by rfl) (by rfl)) ?_
        refine WL.p (by rfl) (Yl.move (by rfl)) ?_
        refine WL.skip (d := 28) (by rfl) (by rfl) (by rfl) (by rfl) ?_
        refine WL.skip (d := 28) (by rfl) (by rfl) (by rfl) (by rfl) ?_
        refine WL.skip (d := 28) (by rfl) (by rfl) (by rfl) (by rfl) ?_
        refine WL.p (by rfl) (Yl.pickF (by rfl) (by rfl)) ?_
        refine WL.p (by rfl) (Yl.assign (by rfl)) ?_
        refine WL.next ?_
        refine WC.ret ?_
        refine fin1' rfl (by rfl) ?_
        refine RetP.mk hs ?_
        clear hs hb h_x
        try simp only [← inR_true] at *
        try simp only [← inR_false] at *
        simp_all [TResponse.isv]
        try (intro hh; omega)
    ·
      replace h2 := inR_false.1 h2
      refine WL.skip (d := 17) (by rfl) (by rfl) (by rfl) (by rfl) ?_
      refine WL.skip (d := 17) (by rfl) (by rfl) (by rfl) (by rfl) ?_
      refine WL.skip (d := 17) (by rfl) (by rfl) (by rfl) (by rfl) ?_
      refine WL.p (by rfl) (Yl.pickF (by rfl) (by rfl)) ?_
      refine WL.p (by rfl) (Yl.move (by rfl)) ?_
      refine WL.skip (d := 22) (by rfl) (by rfl) (by rfl) (by rfl) ?_
      refine WL.skip (d := 22) (by rfl) (by rfl) (by rfl) (by rfl) ?_
      refine WL.skip (d := 22) (by rfl) (by rfl) (by rfl) (by rfl) ?_
      refine WL.skip (d := 22) (by rfl) (by rfl) (by rfl) (by rfl) ?_
      refine WL.p (by rfl) (Yl.pickF (by rfl) (by rfl)) ?_
      refine WL.p (by rfl) (Yl.move (by rfl)) ?_
      refine WL.skip (d := 28) (by rfl) (by rfl) (by rfl) (by rfl) ?_
      refine WL.skip (d := 28) (by rfl) (by rfl) (by rfl) (by rfl) ?_
      refine WL.skip (d := 28) (by rfl) (by rfl) (by rfl) (by rfl) ?_
      refine WL.p (by rfl) (Yl.pickF (by rfl) (by rfl)) ?_
      refine WL.p (by rfl) (Yl.assign (by rfl)) ?_
      refine WL.next ?_
      refine WC.ret ?_
      refine fin1' rfl (by rfl) ?_
      refine RetP.mk hs ?_
      clear hs hb h_x
      try simp only [← inR_true] at *
      try simp only [← inR_false] at *
      simp_all [TResponse.isv]
      try (intro hh; omega)
  ·
    refine WL.skip (d := 12) (by rfl) (by rfl) (by rfl) (by rfl) ?_
    refine WL.skip (d := 12) (by rfl) (by rfl) (by rfl) (by rfl) ?_
    refine WL.skip (d := 12) (by rfl) (by rfl) (by rfl) (by rfl) ?_
    refine WL.p (by rfl) (Yl.pickF (by rfl) (by rfl)) ?_
    refine WL.p (by rfl) (Yl.move (by rfl)) ?_
    refine WL.skip (d := 17) (by rfl) (by rfl) (by rfl) (by rfl) ?_
    refine WL.skip (d := 17) (by rfl) (by rfl) (by rfl) (by rfl) ?_
    refine WL.skip (d := 17) (by rfl) (by rfl) (by rfl) (by rfl) ?_
    refine WL.p (by rfl) (Yl.pickF (by rfl) (by rfl)) ?_
    refine WL.p (by rfl) (Yl.move (by rfl)) ?_
    refine WL.skip (d := 22) (by rfl) (by rfl) (by rfl) (by rfl) ?_
    refine WL.skip (d := 22) (by rfl) (by rfl) (by rfl) (by rfl) ?_
    refine WL.skip (d := 22) (by rfl) (by rfl) (by rfl) (by rfl) ?_
    refine WL.skip (d := 22) (by rfl) (by rfl) (by rfl) (by rfl) ?_
    refine WL.p (by rfl) (Yl.pickF (by rfl) (by rfl)) ?_
    refine WL.p (by rfl) (Yl.move (by rfl)) ?_
    refine WL.skip (d := 28) (by rfl) (by rfl) (by rfl) (by rfl) ?_
    refine WL.skip (d := 28) (by rfl) (by rfl) (by rfl) (by rfl) ?_
    refine WL.skip (d := 28) (by rfl) (by rfl) (by rfl) (by rfl) ?_
    refine WL.p (by rfl) (Yl.pickF (by rfl) (by rfl)) ?_
    refine WL.p (by rfl) (Yl.assign (by rfl)) ?_
    refine WL.next ?_
    refine WC.ret ?_
    refine fin1' rfl (by rfl) ?_
    refine RetP.mk hs ?_
    clear hs hb h_x
    try simp only [← inR_true] at *
    try simp only [← inR_false] at *
    simp_all [TResponse.isv]
    try (intro hh; omega)

theorem c_impl_FitsKind (x : TResponse) (kind : Int) (w : World)   : Calls Tryz.prog 99 [.agg #[I x.status, I x.kind, S x.body, I x.age, Bo x.shares, S x.policy], I kind].toArray w (RetP w (Bo (fitsKind x.kind kind))) := by
  refine enterN 18 Tryz.func99 rfl rfl rfl ?_
  have hs := Sat.start w
  refine WC.seq ?_
  refine WL.r (by rfl) (Yr.box hs (by rfl) (by rfl)) ?_
  clear hs; rintro _ w ⟨b1, rfl, hb, hs⟩; clear hb
  refine WL.p (by rfl) (Yl.assign (by rfl)) ?_
  refine WL.next ?_
  refine WC.seq ?_
  refine WL.p (by rfl) (Yl.fieldAddr fa41_1 (by rfl)) ?_
  refine WL.p (by rfl) (Yl.loadB sca3 (by rfl) hs (by repeat (first | exact List.mem_cons_self | apply List.mem_cons_of_mem)) (by rfl)) ?_
  refine WL.p (by rfl) (Yl.move (by rfl)) ?_
  refine WL.p (by rfl) (Yl.eqi (by rfl) (by rfl)) ?_
  refine WL.p (by rfl) (Yl.move (by rfl)) ?_
  refine WL.split (d := 9) (by rfl) (fun h1 => ?_) (fun h1 => ?_)
  ·
    replace h1 := of_decide_eq_true h1
    refine WL.skip (d := 9) (by rfl) (by rfl) (by rfl) (by rfl) ?_
    refine WL.skip (d := 9) (by rfl) (by rfl) (by rfl) (by rfl) ?_
    refine WL.skip (d := 9) (by rfl) (by rfl) (by rfl) (by rfl) ?_
    refine WL.skipU (d := 12) (by rfl) (by rfl) (by rfl) ?_
    refine WL.skipU (d := 12) (by rfl) (by rfl) (by rfl) ?_
    refine WL.skipU (d := 12) (by rfl) (by rfl) (by rfl) ?_
    refine WL.skip (d := 9) (by rfl) (by rfl) (by rfl) (by rfl) ?_
    refine WL.p (by rfl) (Yl.pickT (by rfl) (by rfl)) ?_
    refine WL.p (by rfl) (Yl.assign (by rfl)) ?_
    refine WL.next ?_
    refine WC.ret ?_
    refine fin1' rfl (by rfl) ?_
    refine RetP.mk hs ?_
    simp_all [fitsKind]
  ·
    replace h1 := of_decide_eq_false h1
    refine WL.run (d := 9) (by rfl) (by rfl) ?_
    refine WL.p (by rfl) (Yl.move (by rfl)) ?_
    refine WL.run (d := 9) (by rfl) (by rfl) ?_
    refine WL.p (by rfl) (Yl.eqi (by rfl) (by rfl)) ?_
    refine WL.run (d := 9) (by rfl) (by rfl) ?_
    refine WL.p (by rfl) (Yl.move (by rfl)) ?_
    refine WL.split (d := 12) (by rfl) (fun h2 => ?_) (fun h2 => ?_)
    ·
      replace h2 := of_decide_eq_true h2
      refine WL.run (d := 12) (by rfl) (by rfl) ?_
      refine WL.p (by rfl) (Yl.fieldAddr fa41_1 (by rfl)) ?_
      refine WL.run (d := 12) (by rfl) (by rfl) ?_
      refine WL.p (by rfl) (Yl.loadB sca3 (by rfl) hs (by repeat (first | exact List.mem_cons_self | apply List.mem_cons_of_mem)) (by rfl)) ?_
      refine WL.run (d := 12) (by rfl) (by rfl) ?_
      refine WL.p (by rfl) (Yl.eqi (by rfl) (by rfl)) ?_
      refine WL.run (d := 9) (by rfl) (by rfl) ?_
      refine WL.p (by rfl) (Yl.pickT (by rfl) (by rfl)) ?_
      refine WL.p (by rfl) (Yl.pickF (by rfl) (by rfl)) ?_
      refine WL.p (by rfl) (Yl.assign (by rfl)) ?_
      refine WL.next ?_
      refine WC.ret ?_
      refine fin1' rfl (by rfl) ?_
      refine RetP.mk hs ?_
      simp_all [fitsKind]
    ·
      replace h2 := of_decide_eq_false h2
      refine WL.skip (d := 12) (by rfl) (by rfl) (by rfl) (by rfl) ?_
      refine WL.skip (d := 12) (by rfl) (by rfl) (by rfl) (by rfl) ?_
      refine WL.skip (d := 12) (by rfl) (by rfl) (by rfl) (by rfl) ?_
      refine WL.run (d := 9) (by rfl) (by rfl) ?_
      refine WL.p (by rfl) (Yl.pickF (by rfl) (by rfl)) ?_
      refine WL.p (by rfl) (Yl.pickF (by rfl) (by rfl)) ?_
      refine WL.p (by rfl) (Yl.assign (by rfl)) ?_
      refine WL.next ?_
      refine WC.ret ?_
      refine fin1' rfl (by rfl) ?_
      refine RetP.mk hs ?_
      simp_all [fitsKind]

theorem c_strconv_Itoa (n : Int) (w : World) (h_n : Ph.ok w n) (ht_ : Tab10 Tryz.prog w) : Calls Tryz.prog 173 [I n].toArray w (RetP w (S (Lib.itoa n))) := by
  exact itoa_calls Tryz.strconv_Itoa n w h_n ht_

theorem c_impl_FormatInt (n : Int) (w : World) (h_n : Ph.ok w n) (ht_ : Tab10 Tryz.prog w) : Calls Tryz.prog 116 [I n].toArray w (RetP w (S (Lib.itoa n))) := by
  refine enterN 5 Tryz.func116 rfl rfl rfl ?_
  have hs := Sat.start w
  refine WC.seq ?_
  refine WL.p (by rfl) (Yl.assign (by rfl)) ?_
  refine WL.next ?_
  refine WC.seq ?_
  refine WL.p (by rfl) (Yl.move (by rfl)) ?_
  refine WL.callp hs (by rfl) (Yc.func (by rfl) fn173) (c_strconv_Itoa _ _ (Ph.old h_n hs) (by first | assumption | exact Sat.tab hs (by assumption))) ?_
  clear hs; intro w hs
  refine WL.p (by rfl) (Yl.assign (by rfl)) ?_
  refine WL.next ?_
  refine WC.ret ?_
  refine fin1' rfl (by rfl) ?_
  refine RetP.mk hs ?_
  rfl

theorem c_impl_Mod (p : Int) (q : Int) (w : World)   : Calls Tryz.prog 224 [I p, I q].toArray w (RetP w (I (modZ p q))) := by
  refine enterN 18 Tryz.func224 rfl rfl rfl ?_
  have hs := Sat.start w
  refine WC.seq ?_
  refine WL.p (by rfl) (Yl.assign (by rfl)) ?_
  refine WL.next ?_
  refine WC.seq' ?_
  refine WC.seq ?_
  refine WL.p (by rfl) (Yl.move (by rfl)) ?_
  refine WL.callp hs (by rfl) (Yc.func (by rfl) fn90) (c_impl_InRange _ _ _ _) ?_
  clear hs; intro w hs
  refine WL.p (by rfl) (Yl.not (by rfl)) ?_
  refine WL.next ?_
  refine WC.condS (by rfl) (fun h1 => ?_) (fun h1 => ?_)
  ·
    replace h1 := not_eq_true h1
    replace h1 := inR_false.1 h1
    refine WC.seq ?_
    refine WL.p (by rfl) (Yl.assign (by rfl)) ?_
    refine WL.next ?_
    refine WC.ret ?_
    refine At.thenret ?_
    refine fin1' rfl (by rfl) ?_
    refine RetP.mk hs ?_
    rw [modZ_out (by omega)]
  ·
    replace h1 := not_eq_false h1
    replace h1 := inR_true.1 h1
    refine WC.skipn ?_
    refine WC.seq ?_
    refine WL.p (by rfl) (Yl.move (by rfl)) ?_
    refine WL.p (by rfl) (Yl.move (by rfl)) ?_
    refine WL.p (by rfl) (Yl.remw (by rfl) (by rfl) (by omega)) ?_
    refine WL.p (by rfl) (Yl.assign (by rfl)) ?_
    refine WL.next ?_
    refine WC.seq' ?_
    refine WC.seq ?_
    refine WL.p (by rfl) (Yl.move (by rfl)) ?_
    refine WL.p (by rfl) (Yl.lss (by rfl) (by rfl)) ?_
    refine WL.next ?_
    refine WC.condS (by rfl) (fun h2 => ?_) (fun h2 => ?_)
    ·
      replace h2 := of_decide_eq_true h2
      refine WC.region ?_
      refine WL.p (by rfl) (Yl.move (by rfl)) ?_
      refine WL.p (by rfl) (Yl.move (by rfl)) ?_
      refine WL.p (by rfl) (Yl.add (by rfl) (by rfl) (by have := tmod_or p (m := q) (by omega); omega)) ?_
      refine WL.p (by rfl) (Yl.assign (by rfl)) ?_
      refine WL.nil ?_
      refine At.then_ ?_
      refine WC.seq ?_
      refine WL.p (by rfl) (Yl.move (by rfl)) ?_
      refine WL.p (by rfl) (Yl.assign (by rfl)) ?_
      refine WL.next ?_
      refine WC.ret ?_
      refine fin1' rfl (by rfl) ?_
      refine RetP.mk hs ?_
      rw [tmod_neg (by omega) (by omega), modZ, if_pos (by omega)]
    ·
      replace h2 := of_decide_eq_false h2
      refine WC.skipn ?_
      refine WC.seq ?_
      refine WL.p (by rfl) (Yl.move (by rfl)) ?_
      refine WL.p (by rfl) (Yl.assign (by rfl)) ?_
      refine WL.next ?_
      refine WC.ret ?_
      refine fin1' rfl (by rfl) ?_
      refine RetP.mk hs ?_
      rw [tmod_nn (by omega) (by omega), modZ, if_pos (by omega)]

theorem c_impl_Hash (values : (Sl Int)) (w : World) (h_values : Ph.ok w values)  : Calls Tryz.prog 202 [Sl.v values].toArray w (RetP w (I (hash values.l))) := by
  have hw := h_values.lt
  refine enterN 21 Tryz.func202 rfl rfl rfl ?_
  have hs := Sat.start w
  refine WC.seq ?_
  refine WL.p (by rfl) (Yl.assign (by rfl)) ?_
  refine WL.next ?_
  refine WC.seq ?_
  refine WL.p (by rfl) (Yl.assign (by rfl)) ?_
  refine WL.next ?_
  refine WC.seq' ?_
  refine WC.seq ?_
  refine WL.p (by rfl) (Yl.move (by rfl)) ?_
  refine WL.p (by rfl) (Yl.len_sl slu74 (by rfl)) ?_
  refine WL.p (by rfl) (Yl.move (by rfl)) ?_
  refine WL.next ?_
  refine WC.block ?_
  refine WC.loopC (ι := Nat × Int) (fun ⟨k, a⟩ => values.l.length - k) (fun ⟨k, a⟩ => [(8, I (k : Int)), (3, I a)]) (fun _ => []) (fun ⟨k, a⟩ => 0 ≤ a ∧ a < 2147483647 ∧ hash values.l = (values.l.drop k).foldl hashStep a) [(0, _), (2, _), (6, _), (7, _)] (0, 11) (hs) ⟨by rfl, by rfl, by rfl, by rfl, trivial⟩ ⟨by rfl, by rfl, trivial⟩ ?_ ?_
  ·
    exact ⟨by decide, by decide, by simp [hash]⟩
  clear hs; rintro ⟨k, a⟩ w ⟨hJ1, hJ2, hJ3⟩ hs
  simp only [List.nil_append] at hs
  refine WC.seq ?_
  refine WL.p (by rfl) (Yl.lss (by rfl) (by rfl)) ?_
  refine WL.next ?_
  refine WC.seq' ?_
  refine WC.condS (by rfl) (fun h1 => ?_) (fun h1 => ?_)
  ·
    replace h1 := of_decide_eq_true h1
    obtain ⟨v, hd⟩ := exists_get (l := values.l) (k := k) (by omega)
    rw [drop_cons hd, List.foldl_cons] at hJ3
    have hmd := modZ_bd (n := v) (m := 2147483647) (by decide)
    have hst := hashStep_bd (v := v) hJ1
    refine WC.skipn ?_
    refine WC.seq' ?_
    refine WC.block ?_
    refine WC.seq ?_
    refine WL.p (by rfl) (Yl.indexAddr slt74 (by rfl) (by rfl) (Ph.old h_values hs) (by rfl) (hd)) ?_
    refine WL.p (by rfl) (Yl.loadC0 sca3 (by rfl) (Sl.Ok.at_ (Ph.old h_values hs) (by assumption)).2 (by rfl)) ?_
    refine WL.p (by rfl) (Yl.assign (by rfl)) ?_
    refine WL.next ?_
    refine WC.region ?_
    refine WL.p (by rfl) (Yl.move (by rfl)) ?_
    refine WL.p (by rfl) (Yl.mul (by rfl) (by rfl) (by omega)) ?_
    refine WL.p (by rfl) (Yl.move (by rfl)) ?_
    refine WL.callp hs (by rfl) (Yc.func (by rfl) fn224) (c_impl_Mod _ _ _) ?_
    clear hs; intro w hs
    refine WL.p (by rfl) (Yl.add (by rfl) (by rfl) (by omega)) ?_
    refine WL.p (by rfl) (Yl.add (by rfl) (by rfl) (by omega)) ?_
    refine WL.p (by rfl) (Yl.remw (by rfl) (by rfl) (by decide)) ?_
    refine WL.p (by rfl) (Yl.assign (by rfl)) ?_
    refine WL.nil ?_
    refine At.blocknormal ?_
    refine At.then_ ?_
    refine WC.region ?_
    refine WL.p (by rfl) (Yl.add (by rfl) (by rfl) (by omega)) ?_
    refine WL.p (by rfl) (Yl.move (by rfl)) ?_
    refine WL.nil ?_
    refine At.roundC (k + 1, hashStep a v) (hs.only (by repeat (first | exact Sel.nil | (apply Sel.cons; (repeat (first | exact Ext.here | apply Ext.there)))))) ⟨by rfl, by rfl, by rfl, by rfl, trivial⟩ ⟨by rfl, by rfl, trivial⟩ ?_ ?_
    ·
      show values.l.length - (k + 1) < values.l.length - k
      omega
    ·
      exact ⟨hst.1, hst.2, hJ3⟩
  ·
    replace h1 := of_decide_eq_false h1
    rw [drop_out (l := values.l) (by omega)] at hJ3
    refine WC.exit ?_
    refine At.thenexit ?_
    refine At.thenexit ?_
    refine At.blockexit ?_
    refine At.then_ ?_
    refine WC.seq ?_
    refine WL.p (by rfl) (Yl.move (by rfl)) ?_
    refine WL.p (by rfl) (Yl.assign (by rfl)) ?_
    refine WL.next ?_
    refine WC.ret ?_
    refine fin1' rfl (by rfl) ?_
    refine RetP.mk hs ?_
    rw [hJ3]; rfl

theorem c_impl_BytesToInts (b : (Sl UInt8)) (w : World) (h_b : Ph.ok w b) (hb : b.l.length ≤ 1048576) : Calls Tryz.prog 203 [Sl.v b].toArray w (Ret w (fun v w' => ∃ x : Sl Int, v = x.v ∧ x.l = bytesInts b.l ∧ Fresh w x w')) := by
  have hw := h_b.lt
  refine enterN 22 Tryz.func203 rfl rfl rfl ?_
  have hs := Sat.start w
  refine WC.seq ?_
  refine WL.p (by rfl) (Yl.assign (by rfl)) ?_
  refine WL.next ?_
  refine WC.seq ?_
  refine WL.p (by rfl) (Yl.move (by rfl)) ?_
  refine WL.p (by rfl) (Yl.len_sl slu211 (by rfl)) ?_
  refine WL.r (by rfl) (Yr.buildSlice hs sll74 (by rfl) (by rfl) (by rfl) (by repeat (first | exact Fill.nil | (apply Fill.cons; rfl; rfl; rfl; repeat (first | (apply SetAt.here; repeat (first | exact Over.nil | apply Over.cons)) | apply SetAt.there)))) (by rfl)) ?_
  clear hs; rintro _ w ⟨b1, rfl, hb, hs⟩; clear hb
  refine WL.p (by rfl) (Yl.assign (by rfl)) ?_
  refine WL.next ?_
  refine WC.seq' ?_
  refine WC.seq ?_
  refine WL.p (by rfl) (Yl.move (by rfl)) ?_
  refine WL.p (by rfl) (Yl.len_sl slu211 (by rfl)) ?_
  refine WL.p (by rfl) (Yl.move (by rfl)) ?_
  refine WL.next ?_
  refine WC.block ?_
  replace hs := Sat.boxow (l := [(b.l.length : Int)]) hs rfl rfl (by simp [maxLen]) (ownL_mk_flat (by intro x hx; obtain rfl := List.mem_singleton.1 hx; exact ⟨by omega, by omega⟩))
  refine WC.loopC (ι := Nat × Sl Int × List Nat) (fun ⟨k, s, F⟩ => b.l.length - k) (fun ⟨k, s, F⟩ => [(11, I (k : Int)), (3, s.v)]) (fun ⟨k, s, F⟩ => [ow s F]) (fun ⟨k, s, F⟩ => k ≤ b.l.length ∧ s.l = (b.l.length : Int) :: (b.l.take k).map (fun c => (c.toNat : Int))) [(0, _), (2, _), (6, _), (7, _), (8, _), (9, _), (10, _)] (0, ⟨[(b.l.length : Int)], some ⟨b1, 0, none⟩, 1⟩, [b1]) (hs.sel (D := [ow (⟨[(b.l.length : Int)], some ⟨b1, 0, none⟩, 1⟩ : Sl Int) [b1]]) (by repeat (first | exact Sel.nil | (apply Sel.cons; (repeat (first | exact Ext.here | apply Ext.there)))))) ⟨by rfl, by rfl, by rfl, by rfl, by rfl, by rfl, by rfl, trivial⟩ ⟨by rfl, by rfl, trivial⟩ ?_ ?_
  ·
    exact ⟨Nat.zero_le _, by simp⟩
  clear hs; rintro ⟨k, s, F⟩ w ⟨hJ1, hJ2⟩ hs
  simp only [List.cons_append, List.nil_append] at hs
  refine WC.seq ?_
  refine WL.p (by rfl) (Yl.lss (by rfl) (by rfl)) ?_
  refine WL.next ?_
  refine WC.seq' ?_
  refine WC.condS (by rfl) (fun h1 => ?_) (fun h1 => ?_)
  ·
    replace h1 := of_decide_eq_true h1
    obtain ⟨d, hd⟩ := exists_get (l := b.l) (k := k) (by omega)
    have htk : ((b.l.take k).map (fun c => (c.toNat : Int))).length = k := by simp; omega
    refine WC.skipn ?_
    refine WC.seq' ?_
    refine WC.block ?_
    refine WC.seq ?_
    refine WL.p (by rfl) (Yl.indexAddr slt211 (by rfl) (by rfl) (Ph.old h_b hs) (by rfl) (hd)) ?_
    refine WL.p (by rfl) (Yl.loadC0 sca5 (by rfl) (Sl.Ok.at_ (Ph.old h_b hs) (by assumption)).2 (by rfl)) ?_
    refine WL.p (by rfl) (Yl.assign (by rfl)) ?_
    refine WL.next ?_
    refine WC.region ?_
    refine WL.p (by rfl) (Yl.move (by rfl)) ?_
    refine WL.p (by rfl) (Yl.move (by rfl)) ?_
    refine WL.p (by rfl) (Yl.byteInt (by kernel_rfl) i64t3 (by rfl)) ?_
    refine WL.r (by rfl) (Yr.buildSlice hs sll74 (by rfl) (by rfl) (by rfl) (by repeat (first | exact Fill.nil | (apply Fill.cons; rfl; rfl; rfl; repeat (first | (apply SetAt.here; repeat (first | exact Over.nil | apply Over.cons)) | apply SetAt.there)))) (by rfl)) ?_
    clear hs; rintro _ w ⟨b2, rfl, hb, hs⟩; clear hb
    refine WL.r (by rfl) (Yr.append (s := s) (F := F) hs elt74 (by repeat (first | exact Sel.nil | (apply Sel.cons; (repeat (first | exact Ext.here | apply Ext.there))))) (by rfl) (by rfl) rfl (xs := [_]) (hs.box_cells (by repeat (first | exact List.mem_cons_self | apply List.mem_cons_of_mem))) (by intro x hx; obtain rfl := List.mem_singleton.1 hx; exact ⟨by have := d.toNat_lt; omega, by have := d.toNat_lt; omega⟩) (by rw [hJ2]; simp; unfold maxLen; omega) (by rw [hJ2]; simp; omega)) ?_
    clear hs; rintro _ w ⟨s3, F3, rfl, hl3, hs⟩
    refine WL.p (by rfl) (Yl.assign (by rfl)) ?_
    refine WL.nil ?_
    refine At.blocknormal ?_
    refine At.then_ ?_
    refine WC.region ?_
    refine WL.p (by rfl) (Yl.add (by rfl) (by rfl) (by omega)) ?_
    refine WL.p (by rfl) (Yl.move (by rfl)) ?_
    refine WL.nil ?_
    refine At.roundC (k + 1, s3, F3) (hs.only (by repeat (first | exact Sel.nil | (apply Sel.cons; (repeat (first | exact Ext.here | apply Ext.there)))))) ⟨by rfl, by rfl, by rfl, by rfl, by rfl, by rfl, by rfl, trivial⟩ ⟨by rfl, by rfl, trivial⟩ ?_ ?_
    ·
      show b.l.length - (k + 1) < b.l.length - k
      omega
    ·
      exact ⟨by omega, by rw [hl3, hJ2, List.cons_append, take_map_step hd]⟩
  ·
    replace h1 := of_decide_eq_false h1
    refine WC.exit ?_
    refine At.thenexit ?_
    refine At.thenexit ?_
    refine At.blockexit ?_
    refine At.then_ ?_
    refine WC.seq ?_
    refine WL.p (by rfl) (Yl.move (by rfl)) ?_
    refine WL.p (by rfl) (Yl.assign (by rfl)) ?_
    refine WL.next ?_
    refine WC.ret ?_
    refine fin1' rfl (by rfl) ?_
    refine Ret.mk hs ?_
    exact ⟨s, rfl, by rw [hJ2, show k = b.l.length from by omega]; simp [bytesInts], hs.fresh (by repeat (first | exact List.mem_cons_self | apply List.mem_cons_of_mem))⟩

theorem c_impl_DigestOf (body : Str) (w : World) (h_body : Ph.ok w body) (hb : body.length ≤ 1048576) : Calls Tryz.prog 165 [S body].toArray w (RetP w (I (digestN body))) := by
  have hw : body.length ≤ 9223372036854775807 := h_body
  refine enterN 9 Tryz.func165 rfl rfl rfl ?_
  have hs := Sat.start w
  refine WC.seq ?_
  refine WL.p (by rfl) (Yl.assign (by rfl)) ?_
  refine WL.next ?_
  refine WC.seq ?_
  refine WL.r (by rfl) (Yr.buildSlice hs sll74 (by rfl) (by rfl) (by rfl) (by repeat (first | exact Fill.nil | (apply Fill.cons; rfl; rfl; rfl; repeat (first | (apply SetAt.here; repeat (first | exact Over.nil | apply Over.cons)) | apply SetAt.there)))) (by rfl)) ?_
  clear hs; rintro _ w ⟨b1, rfl, hb, hs⟩; clear hb
  refine WL.p (by rfl) (Yl.move (by rfl)) ?_
  refine WL.r (by rfl) (Yr.strBytes hs str9 slu211 u8t5 (by rfl) (by exact hw)) ?_
  clear hs; rintro _ w ⟨r2, b2, rfl, hl2, hb, hs⟩; clear hb
  refine WL.call hs (by rfl) (Yc.func (by rfl) fn203) (c_impl_BytesToInts _ _ (hs.okrd (s := r2) (b := b2) (by repeat (first | exact List.mem_cons_self | apply List.mem_cons_of_mem))) (by rw [hl2]; exact hb)) ?_
  have hs0 := hs; clear hs; intro v w hb hR hs; clear hs
  obtain ⟨x3, rfl, hx3, hf3⟩ := hR
  obtain ⟨F3, hs⟩ := hf3.sat hs0 hb; clear hs0 hf3
  have hle3 := Sl.Ok.le (hs.okow (x := x3) (F := F3) (by repeat (first | exact List.mem_cons_self | apply List.mem_cons_of_mem)))
  replace hs := (Sat.boxow (l := ([151] : List Int)) (hs.sel (D := [box b1 _ _]) (by repeat (first | exact Sel.nil | (apply Sel.cons; (repeat (first | exact Ext.here | apply Ext.there)))))) rfl rfl (by simp [maxLen]) (ownL_mk_flat (by intro x hx; obtain rfl := List.mem_singleton.1 hx; exact ⟨by decide, by decide⟩)))
  refine WL.r (by rfl) (Yr.appendS (s := (⟨[151], some ⟨b1, 0, none⟩, _⟩ : Sl Int)) (F := [b1]) (r := x3) hs elt74 (by repeat (first | exact Sel.nil | (apply Sel.cons; (repeat (first | exact Ext.here | apply Ext.there))))) (by rfl) (by rfl) (hs.okow (x := x3) (F := F3) (by repeat (first | exact List.mem_cons_self | apply List.mem_cons_of_mem))) (by rw [hx3, hl2]; simp [bytesInts]; unfold maxLen; omega) (by rw [hx3, hl2]; simp [bytesInts]; omega)) ?_
  clear hs; rintro _ w ⟨s4, F4, rfl, hl4, hs⟩
  refine WL.callp hs (by rfl) (Yc.func (by rfl) fn202) (c_impl_Hash _ _ (hs.okow (x := s4) (F := F4) (by repeat (first | exact List.mem_cons_self | apply List.mem_cons_of_mem)))) ?_
  clear hs; intro w hs
  refine WL.p (by rfl) (Yl.assign (by rfl)) ?_
  refine WL.next ?_
  refine WC.ret ?_
  refine fin1' rfl (by rfl) ?_
  refine RetP.mk hs ?_
  simp only [hl4, hx3, hl2]; rfl

theorem c_impl_CheckDigest (body : Str) (value : Str) (w : World) (h_body : Ph.ok w body) (hb : body.length ≤ 1048576) (ht_ : Tab10 Tryz.prog w) : Calls Tryz.prog 100 [S body, S value].toArray w (RetP w (Bo (checkDigest body value))) := by
  refine enterN 14 Tryz.func100 rfl rfl rfl ?_
  have hs := Sat.start w
  refine WC.seq ?_
  refine WL.p (by rfl) (Yl.assign (by rfl)) ?_
  refine WL.next ?_
  refine WC.seq ?_
  refine WL.p (by rfl) (Yl.move (by rfl)) ?_
  refine WL.p (by rfl) (Yl.eqs (by rfl) (by rfl)) ?_
  refine WL.p (by rfl) (Yl.move (by rfl)) ?_
  refine WL.split (d := 7) (by rfl) (fun h1 => ?_) (fun h1 => ?_)
  ·
    replace h1 := of_decide_eq_true h1
    refine WL.skip (d := 7) (by rfl) (by rfl) (by rfl) (by rfl) ?_
    refine WL.skip (d := 7) (by rfl) (by rfl) (by rfl) (by rfl) ?_
    refine WL.skip (d := 7) (by rfl) (by rfl) (by rfl) (by rfl) ?_
    refine WL.skip (d := 7) (by rfl) (by rfl) (by rfl) (by rfl) ?_
    refine WL.skip (d := 7) (by rfl) (by rfl) (by rfl) (by rfl) ?_
    refine WL.p (by rfl) (Yl.pickT (by rfl) (by rfl)) ?_
    refine WL.p (by rfl) (Yl.assign (by rfl)) ?_
    refine WL.next ?_
    refine WC.ret ?_
    refine fin1' rfl (by rfl) ?_
    refine RetP.mk hs ?_
    simp_all [checkDigest]
  ·
    replace h1 := of_decide_eq_false h1
    refine WL.run (d := 7) (by rfl) (by rfl) ?_
    refine WL.p (by rfl) (Yl.move (by rfl)) ?_
    refine WL.run (d := 7) (by rfl) (by rfl) ?_
    refine WL.p (by rfl) (Yl.move (by rfl)) ?_
    refine WL.run (d := 7) (by rfl) (by rfl) ?_
    refine WL.callp hs (by rfl) (Yc.func (by rfl) fn165) (c_impl_DigestOf _ _ (Ph.old h_body hs) (by first | assumption | omega | (simp only [lsz] at *; omega) | (simp only [lsz, strsz, TPolicy.size, TCache.size, TAddr.size, TRequest.size, TEntry.size, TResponse.size, TLine.size] at *; omega) | (simp only [lsz_map, TPage.size, TBuilder.size, TNode.size, TToken.size, TTokenizer.size, TServer.size, TFile.size, TNet.size, TCache.size, TSheet.size, strsz] at *; omega) | (simp only [lsz_map, TPage.size, TBuilder.size, TNode.size, TToken.size, TTokenizer.size, TServer.size, TFile.size, TNet.size, TCache.size, TSheet.size, strsz, lsz] at *; omega))) ?_
    clear hs; intro w hs
    refine WL.run (d := 7) (by rfl) (by rfl) ?_
    refine WL.callp hs (by rfl) (Yc.func (by rfl) fn116) (c_impl_FormatInt _ _ (digestN_wf _) (by first | assumption | exact Sat.tab hs (by assumption))) ?_
    clear hs; intro w hs
    refine WL.run (d := 7) (by rfl) (by rfl) ?_
    refine WL.p (by rfl) (Yl.eqs (by rfl) (by rfl)) ?_
    refine WL.p (by rfl) (Yl.pickF (by rfl) (by rfl)) ?_
    refine WL.p (by rfl) (Yl.assign (by rfl)) ?_
    refine WL.next ?_
    refine WC.ret ?_
    refine fin1' rfl (by rfl) ?_
    refine RetP.mk hs ?_
    simp_all [checkDigest]

theorem c_impl_CheckResponse (p : PPolicy) (r : TRequest) (x : TResponse) (w : World) (h_p : Ph.ok w p) (h_r : Ph.ok w r) (h_x : Ph.ok w x) (hb : x.policy.length ≤ 1048576) (hb2 : x.body.length ≤ 1048576) (hm_ : ∃ m, w.cell? ⟨1, 0, none⟩ = some (.int .i64 m)) (ht_ : Tab10 Tryz.prog w) : Calls Tryz.prog 30 [.agg #[Bo p.set, Sl.v p.scripts, Sl.v p.styles, Sl.v p.images, S p.nonce], .agg #[I r.kind, S r.to.host, S r.to.path, S r.frm, S r.digest], .agg #[I x.status, I x.kind, S x.body, I x.age, Bo x.shares, S x.policy]].toArray w (RetP w (I (checkResp p.lg r x))) := by
  refine enterN 59 Tryz.func30 rfl rfl rfl ?_
  have hs := Sat.start w
  refine WC.seq ?_
  refine WL.r (by rfl) (Yr.box hs (by rfl) (by rfl)) ?_
  clear hs; rintro _ w ⟨b1, rfl, hb, hs⟩; clear hb
  refine WL.r (by rfl) (Yr.box hs (by rfl) (by rfl)) ?_
  clear hs; rintro _ w ⟨b2, rfl, hb, hs⟩; clear hb
  refine WL.r (by rfl) (Yr.box hs (by rfl) (by rfl)) ?_
  clear hs; rintro _ w ⟨b3, rfl, hb, hs⟩; clear hb
  refine WL.p (by rfl) (Yl.assign (by rfl)) ?_
  refine WL.next ?_
  refine WC.seq' ?_
  refine WC.block ?_
  refine WC.seq ?_
  refine WL.p (by rfl) (Yl.loadAB agg63 (by rfl) hs (by repeat (first | exact List.mem_cons_self | apply List.mem_cons_of_mem)) (by rfl) (by rfl)) ?_
  refine WL.p (by rfl) (Yl.loadAB agg66 (by rfl) hs (by repeat (first | exact List.mem_cons_self | apply List.mem_cons_of_mem)) (by rfl) (by rfl)) ?_
  refine WL.callp hs (by rfl) (Yc.func (by rfl) fn97) (c_impl_CheckRequest _ _ _ (Ph.old h_p hs) (Ph.old h_r hs)) ?_
  clear hs; intro w hs
  refine WL.p (by rfl) (Yl.nei (by rfl) (by rfl)) ?_
  refine WL.p (by rfl) (Yl.assign (by rfl)) ?_
  refine WL.next ?_
  refine WC.condS (by rfl) (fun h1 => ?_) (fun h1 => ?_)
  ·
    replace h1 := not_eq_true h1
    replace h1 := of_decide_eq_false h1
    refine WC.seq ?_
    refine WL.p (by rfl) (Yl.loadAB agg63 (by rfl) hs (by repeat (first | exact List.mem_cons_self | apply List.mem_cons_of_mem)) (by rfl) (by rfl)) ?_
    refine WL.p (by rfl) (Yl.loadAB agg66 (by rfl) hs (by repeat (first | exact List.mem_cons_self | apply List.mem_cons_of_mem)) (by rfl) (by rfl)) ?_
    refine WL.callp hs (by rfl) (Yc.func (by rfl) fn97) (c_impl_CheckRequest _ _ _ (Ph.old h_p hs) (Ph.old h_r hs)) ?_
    clear hs; intro w hs
    refine WL.p (by rfl) (Yl.assign (by rfl)) ?_
    refine WL.next ?_
    refine WC.ret ?_
    refine At.blockret ?_
    refine At.thenret ?_
    refine fin1' rfl (by rfl) ?_
    refine RetP.mk hs ?_
    have e9_ := checkReq_or p.lg r
    simp_all [checkResp]
  ·
    replace h1 := not_eq_false h1
    replace h1 := of_decide_eq_true h1
    refine WC.seq ?_
    refine WL.p (by rfl) (Yl.loadAB agg41 (by rfl) hs (by repeat (first | exact List.mem_cons_self | apply List.mem_cons_of_mem)) (by rfl) (by rfl)) ?_
    refine WL.callp hs (by rfl) (Yc.func (by rfl) fn98) (c_impl_IsResponse _ _ (Ph.old h_x hs) (by exact hb) (by first | assumption | exact Sat.cellm hs (by assumption))) ?_
    clear hs; intro w hs
    refine WL.p (by rfl) (Yl.not (by rfl)) ?_
    refine WL.p (by rfl) (Yl.move (by rfl)) ?_
    refine WL.split (d := 19) (by rfl) (fun h2 => ?_) (fun h2 => ?_)
    ·
      replace h2 := not_eq_true h2
      refine WL.skip (d := 19) (by rfl) (by rfl) (by rfl) (by rfl) ?_
      refine WL.skip (d := 19) (by rfl) (by rfl) (by rfl) (by rfl) ?_
      refine WL.skip (d := 19) (by rfl) (by rfl) (by rfl) (by rfl) ?_
      refine WL.p (by rfl) (Yl.pickT (by rfl) (by rfl)) ?_
      refine WL.p (by rfl) (Yl.assign (by rfl)) ?_
      refine WL.next ?_
      refine WC.condT (by rfl) ?_
      refine WC.seq ?_
      refine WL.p (by rfl) (Yl.assign (by rfl)) ?_
      refine WL.next ?_
      refine WC.ret ?_
      refine At.blockret ?_
      refine At.thenret ?_
      refine fin1' rfl (by rfl) ?_
      refine RetP.mk hs ?_
      have e9_ := checkReq_or p.lg r
      simp_all [checkResp]
    ·
      replace h2 := not_eq_false h2
      refine WL.run (d := 19) (by rfl) (by rfl) ?_
      refine WL.p (by rfl) (Yl.fieldAddr fa41_0 (by rfl)) ?_
      refine WL.run (d := 19) (by rfl) (by rfl) ?_
      refine WL.p (by rfl) (Yl.loadB sca3 (by rfl) hs (by repeat (first | exact List.mem_cons_self | apply List.mem_cons_of_mem)) (by rfl)) ?_
      refine WL.run (d := 19) (by rfl) (by rfl) ?_
      refine WL.p (by rfl) (Yl.nei (by rfl) (by rfl)) ?_
      refine WL.p (by rfl) (Yl.pickF (by rfl) (by rfl)) ?_
      refine WL.p (by rfl) (Yl.assign (by rfl)) ?_
      refine WL.next ?_
      refine WC.condS (by rfl) (fun h3 => ?_) (fun h3 => ?_)
      ·
        replace h3 := not_eq_true h3
        replace h3 := of_decide_eq_false h3
        refine WC.seq ?_
        refine WL.p (by rfl) (Yl.assign (by rfl)) ?_
        refine WL.next ?_
        refine WC.ret ?_
        refine At.blockret ?_
        refine At.thenret ?_
        refine fin1' rfl (by rfl) ?_
        refine RetP.mk hs ?_
        have e9_ := checkReq_or p.lg r
        simp_all [checkResp]
      ·
        replace h3 := not_eq_false h3
        replace h3 := of_decide_eq_true h3
        refine WC.seq ?_
        refine WL.p (by rfl) (Yl.loadAB agg41 (by rfl) hs (by repeat (first | exact List.mem_cons_self | apply List.mem_cons_of_mem)) (by rfl) (by rfl)) ?_
        refine WL.p (by rfl) (Yl.fieldAddr fa66_0 (by rfl)) ?_
        refine WL.p (by rfl) (Yl.loadB sca3 (by rfl) hs (by repeat (first | exact List.mem_cons_self | apply List.mem_cons_of_mem)) (by rfl)) ?_
        refine WL.callp hs (by rfl) (Yc.func (by rfl) fn99) (c_impl_FitsKind _ _ _) ?_
        clear hs; intro w hs
        refine WL.p (by rfl) (Yl.not (by rfl)) ?_
        refine WL.p (by rfl) (Yl.assign (by rfl)) ?_
        refine WL.next ?_
        refine WC.condS (by rfl) (fun h4 => ?_) (fun h4 => ?_)
        ·
          replace h4 := not_eq_true h4
          refine WC.seq ?_
          refine WL.p (by rfl) (Yl.assign (by rfl)) ?_
          refine WL.next ?_
          refine WC.ret ?_
          refine At.blockret ?_
          refine At.thenret ?_
          refine fin1' rfl (by rfl) ?_
          refine RetP.mk hs ?_
          have e9_ := checkReq_or p.lg r
          simp_all [checkResp]
        ·
          replace h4 := not_eq_false h4
          refine WC.seq ?_
          refine WL.p (by rfl) (Yl.fieldAddr fa66_2 (by rfl)) ?_
          refine WL.p (by rfl) (Yl.loadB sca9 (by rfl) hs (by repeat (first | exact List.mem_cons_self | apply List.mem_cons_of_mem)) (by rfl)) ?_
          refine WL.p (by rfl) (Yl.fieldAddr fa66_1 (by rfl)) ?_
          refine WL.p (by rfl) (Yl.fieldAddr fa45_0 (by rfl)) ?_
          refine WL.p (by rfl) (Yl.loadB sca9 (by rfl) hs (by repeat (first | exact List.mem_cons_self | apply List.mem_cons_of_mem)) (by rfl)) ?_
          refine WL.p (by rfl) (Yl.nes (by rfl) (by rfl)) ?_
          refine WL.p (by rfl) (Yl.move (by rfl)) ?_
          refine WL.split (d := 37) (by rfl) (fun h5 => ?_) (fun h5 => ?_)
          ·
            replace h5 := not_eq_true h5
            replace h5 := of_decide_eq_false h5
            refine WL.run (d := 37) (by rfl) (by rfl) ?_
            refine WL.p (by rfl) (Yl.fieldAddr fa41_4 (by rfl)) ?_
            refine WL.run (d := 37) (by rfl) (by rfl) ?_
            refine WL.p (by rfl) (Yl.loadB sca4 (by rfl) hs (by repeat (first | exact List.mem_cons_self | apply List.mem_cons_of_mem)) (by rfl)) ?_
            refine WL.run (d := 37) (by rfl) (by rfl) ?_
            refine WL.p (by rfl) (Yl.not (by rfl)) ?_
            refine WL.p (by rfl) (Yl.pickT (by rfl) (by rfl)) ?_
            refine WL.p (by rfl) (Yl.move (by rfl)) ?_
            refine WL.split (d := 42) (by rfl) (fun h6 => ?_) (fun h6 => ?_)
            ·
              replace h6 := not_eq_true h6
              refine WL.run (d := 42) (by rfl) (by rfl) ?_
              refine WL.p (by rfl) (Yl.fieldAddr fa66_0 (by rfl)) ?_
              refine WL.run (d := 42) (by rfl) (by rfl) ?_
              refine WL.p (by rfl) (Yl.loadB sca3 (by rfl) hs (by repeat (first | exact List.mem_cons_self | apply List.mem_cons_of_mem)) (by rfl)) ?_
              refine WL.run (d := 42) (by rfl) (by rfl) ?_
              refine WL.p (by rfl) (Yl.eqi (by rfl) (by rfl)) ?_
              refine WL.run (d := 42) (by rfl) (by rfl) ?_
              refine WL.p (by rfl) (Yl.move (by rfl)) ?_
              refine WL.split (d := 46) (by rfl) (fun h7 => ?_) (fun h7 => ?_)
              ·
                replace h7 := of_decide_eq_true h7
                refine WL.skip (d := 46) (by rfl) (by rfl) (by rfl) (by rfl) ?_
                refine WL.skip (d := 46) (by rfl) (by rfl) (by rfl) (by rfl) ?_
                refine WL.skip (d := 46) (by rfl) (by rfl) (by rfl) (by rfl) ?_
                refine WL.run (d := 42) (by rfl) (by rfl) ?_
                refine WL.p (by rfl) (Yl.pickT (by rfl) (by rfl)) ?_
                refine WL.p (by rfl) (Yl.pickT (by rfl) (by rfl)) ?_
                refine WL.p (by rfl) (Yl.assign (by rfl)) ?_
                refine WL.next ?_
                refine WC.condT (by rfl) ?_
                refine WC.seq ?_
                refine WL.p (by rfl) (Yl.assign (by rfl)) ?_
                refine WL.next ?_
                refine WC.ret ?_
                refine At.blockret ?_
                refine At.thenret ?_
                refine fin1' rfl (by rfl) ?_
                refine RetP.mk hs ?_
                have e9_ := checkReq_or p.lg r
                simp_all [checkResp]
              ·
                replace h7 := of_decide_eq_false h7
                refine WL.run (d := 46) (by rfl) (by rfl) ?_
                refine WL.p (by rfl) (Yl.fieldAddr fa66_3 (by rfl)) ?_
                refine WL.run (d := 46) (by rfl) (by rfl) ?_
                refine WL.p (by rfl) (Yl.loadB sca9 (by rfl) hs (by repeat (first | exact List.mem_cons_self | apply List.mem_cons_of_mem)) (by rfl)) ?_
                refine WL.run (d := 46) (by rfl) (by rfl) ?_
                refine WL.p (by rfl) (Yl.nes (by rfl) (by rfl)) ?_
                refine WL.run (d := 42) (by rfl) (by rfl) ?_
                refine WL.p (by rfl) (Yl.pickF (by rfl) (by rfl)) ?_
                refine WL.p (by rfl) (Yl.pickT (by rfl) (by rfl)) ?_
                refine WL.p (by rfl) (Yl.assign (by rfl)) ?_
                refine WL.next ?_
                refine WC.condS (by rfl) (fun h8 => ?_) (fun h8 => ?_)
                ·
                  replace h8 := not_eq_true h8
                  replace h8 := of_decide_eq_false h8
                  refine WC.seq ?_
                  refine WL.p (by rfl) (Yl.assign (by rfl)) ?_
                  refine WL.next ?_
                  refine WC.ret ?_
                  refine At.blockret ?_
                  refine At.thenret ?_
                  refine fin1' rfl (by rfl) ?_
                  refine RetP.mk hs ?_
                  have e9_ := checkReq_or p.lg r
                  simp_all [checkResp]
                ·
                  replace h8 := not_eq_false h8
                  replace h8 := of_decide_eq_true h8
                  refine WC.seq ?_
                  refine WL.p (by rfl) (Yl.fieldAddr fa41_2 (by rfl)) ?_
                  refine WL.p (by rfl) (Yl.loadB sca9 (by rfl) hs (by repeat (first | exact List.mem_cons_self | apply List.mem_cons_of_mem)) (by rfl)) ?_
                  refine WL.p (by rfl) (Yl.fieldAddr fa66_3 (by rfl)) ?_
                  refine WL.p (by rfl) (Yl.loadB sca9 (by rfl) hs (by repeat (first | exact List.mem_cons_self | apply List.mem_cons_of_mem)) (by rfl)) ?_
                  refine WL.callp hs (by rfl) (Yc.func (by rfl) fn100) (c_impl_CheckDigest _ _ _ (Ph.old h_x.body hs) (by exact hb2) (by first | assumption | exact Sat.tab hs (by assumption))) ?_
                  clear hs; intro w hs
                  refine WL.p (by rfl) (Yl.not (by rfl)) ?_
                  refine WL.p (by rfl) (Yl.assign (by rfl)) ?_
                  refine WL.next ?_
                  refine WC.condS (by rfl) (fun h9 => ?_) (fun h9 => ?_)
                  ·
                    replace h9 := not_eq_true h9
                    refine WC.seq ?_
                    refine WL.p (by rfl) (Yl.assign (by rfl)) ?_
                    refine WL.next ?_
                    refine WC.ret ?_
                    refine At.blockret ?_
                    refine At.thenret ?_
                    refine fin1' rfl (by rfl) ?_
                    refine RetP.mk hs ?_
                    have e9_ := checkReq_or p.lg r
                    simp_all [checkResp]
                  ·
                    replace h9 := not_eq_false h9
                    refine WC.skip ?_
                    refine At.blocknormal ?_
                    refine At.then_ ?_
                    refine WC.seq ?_
                    refine WL.p (by rfl) (Yl.assign (by rfl)) ?_
                    refine WL.next ?_
                    refine WC.ret ?_
                    refine fin1' rfl (by rfl) ?_
                    refine RetP.mk hs ?_
                    have e9_ := checkReq_or p.lg r
                    simp_all [checkResp]
            ·
              replace h6 := not_eq_false h6
              refine WL.skip (d := 42) (by rfl) (by rfl) (by rfl) (by rfl) ?_
              refine WL.skip (d := 42) (by rfl) (by rfl) (by rfl) (by rfl) ?_
              refine WL.skip (d := 42) (by rfl) (by rfl) (by rfl) (by rfl) ?_
              refine WL.skip (d := 42) (by rfl) (by rfl) (by rfl) (by rfl) ?_
              refine WL.skipU (d := 46) (by rfl) (by rfl) (by rfl) ?_
              refine WL.skipU (d := 46) (by rfl) (by rfl) (by rfl) ?_
              refine WL.skipU (d := 46) (by rfl) (by rfl) (by rfl) ?_
              refine WL.skip (d := 42) (by rfl) (by rfl) (by rfl) (by rfl) ?_
              refine WL.p (by rfl) (Yl.pickF (by rfl) (by rfl)) ?_
              refine WL.p (by rfl) (Yl.assign (by rfl)) ?_
              refine WL.next ?_
              refine WC.condF (by rfl) ?_
              refine WC.seq ?_
              refine WL.p (by rfl) (Yl.fieldAddr fa41_2 (by rfl)) ?_
              refine WL.p (by rfl) (Yl.loadB sca9 (by rfl) hs (by repeat (first | exact List.mem_cons_self | apply List.mem_cons_of_mem)) (by rfl)) ?_
              refine WL.p (by rfl) (Yl.fieldAddr fa66_3 (by rfl)) ?_
              refine WL.p (by rfl) (Yl.loadB sca9 (by rfl) hs (by repeat (first | exact List.mem_cons_self | apply List.mem_cons_of_mem)) (by rfl)) ?_
              refine WL.callp hs (by rfl) (Yc.func (by rfl) fn100) (c_impl_CheckDigest _ _ _ (Ph.old h_x.body hs) (by exact hb2) (by first | assumption | exact Sat.tab hs (by assumption))) ?_
              clear hs; intro w hs
              refine WL.p (by rfl) (Yl.not (by rfl)) ?_
              refine WL.p (by rfl) (Yl.assign (by rfl)) ?_
              refine WL.next ?_
              refine WC.condS (by rfl) (fun h7 => ?_) (fun h7 => ?_)
              ·
                replace h7 := not_eq_true h7
                refine WC.seq ?_
                refine WL.p (by rfl) (Yl.assign (by rfl)) ?_
                refine WL.next ?_
                refine WC.ret ?_
                refine At.blockret ?_
                refine At.thenret ?_
                refine fin1' rfl (by rfl) ?_
                refine RetP.mk hs ?_
                have e9_ := checkReq_or p.lg r
                simp_all [checkResp]
              ·
                replace h7 := not_eq_false h7
                refine WC.skip ?_
                refine At.blocknormal ?_
                refine At.then_ ?_
                refine WC.seq ?_
                refine WL.p (by rfl) (Yl.assign (by rfl)) ?_
                refine WL.next ?_
                refine WC.ret ?_
                refine fin1' rfl (by rfl) ?_
                refine RetP.mk hs ?_
                have e9_ := checkReq_or p.lg r
                simp_all [checkResp]
          ·
            replace h5 := not_eq_false h5
            replace h5 := of_decide_eq_true h5
            refine WL.skip (d := 37) (by rfl) (by rfl) (by rfl) (by rfl) ?_
            refine WL.skip (d := 37) (by rfl) (by rfl) (by rfl) (by rfl) ?_
            refine WL.skip (d := 37) (by rfl) (by rfl) (by rfl) (by rfl) ?_
            refine WL.p (by rfl) (Yl.pickF (by rfl) (by rfl)) ?_
            refine WL.p (by rfl) (Yl.move (by rfl)) ?_
            refine WL.skip (d := 42) (by rfl) (by rfl) (by rfl) (by rfl) ?_
            refine WL.skip (d := 42) (by rfl) (by rfl) (by rfl) (by rfl) ?_
            refine WL.skip (d := 42) (by rfl) (by rfl) (by rfl) (by rfl) ?_
            refine WL.skip (d := 42) (by rfl) (by rfl) (by rfl) (by rfl) ?_
            refine WL.skipU (d := 46) (by rfl) (by rfl) (by rfl) ?_
            refine WL.skipU (d := 46) (by rfl) (by rfl) (by rfl) ?_
            refine WL.skipU (d := 46) (by rfl) (by rfl) (by rfl) ?_
            refine WL.skip (d := 42) (by rfl) (by rfl) (by rfl) (by rfl) ?_
            refine WL.p (by rfl) (Yl.pickF (by rfl) (by rfl)) ?_
            refine WL.p (by rfl) (Yl.assign (by rfl)) ?_
            refine WL.next ?_
            refine WC.condF (by rfl) ?_
            refine WC.seq ?_
            refine WL.p (by rfl) (Yl.fieldAddr fa41_2 (by rfl)) ?_
            refine WL.p (by rfl) (Yl.loadB sca9 (by rfl) hs (by repeat (first | exact List.mem_cons_self | apply List.mem_cons_of_mem)) (by rfl)) ?_
            refine WL.p (by rfl) (Yl.fieldAddr fa66_3 (by rfl)) ?_
            refine WL.p (by rfl) (Yl.loadB sca9 (by rfl) hs (by repeat (first | exact List.mem_cons_self | apply List.mem_cons_of_mem)) (by rfl)) ?_
            refine WL.callp hs (by rfl) (Yc.func (by rfl) fn100) (c_impl_CheckDigest _ _ _ (Ph.old h_x.body hs) (by exact hb2) (by first | assumption | exact Sat.tab hs (by assumption))) ?_
            clear hs; intro w hs
            refine WL.p (by rfl) (Yl.not (by rfl)) ?_
            refine WL.p (by rfl) (Yl.assign (by rfl)) ?_
            refine WL.next ?_
            refine WC.condS (by rfl) (fun h6 => ?_) (fun h6 => ?_)
            ·
              replace h6 := not_eq_true h6
              refine WC.seq ?_
              refine WL.p (by rfl) (Yl.assign (by rfl)) ?_
              refine WL.next ?_
              refine WC.ret ?_
              refine At.blockret ?_
              refine At.thenret ?_
              refine fin1' rfl (by rfl) ?_
              refine RetP.mk hs ?_
              have e9_ := checkReq_or p.lg r
              simp_all [checkResp]
            ·
              replace h6 := not_eq_false h6
              refine WC.skip ?_
              refine At.blocknormal ?_
              refine At.then_ ?_
              refine WC.seq ?_
              refine WL.p (by rfl) (Yl.assign (by rfl)) ?_
              refine WL.next ?_
              refine WC.ret ?_
              refine fin1' rfl (by rfl) ?_
              refine RetP.mk hs ?_
              have e9_ := checkReq_or p.lg r
              simp_all [checkResp]

theorem c_laws_eqStringS (a : (Sl Str)) (b : (Sl Str)) (w : World) (h_a : Ph.ok w a) (h_b : Ph.ok w b)  : Calls Tryz.prog 51 [Sl.v a, Sl.v b].toArray w (RetP w (Bo (decide (a.l = b.l)))) := by
  have hw := h_a.lt
  refine enterN 26 Tryz.func51 rfl rfl rfl ?_
  have hs := Sat.start w
  refine WC.seq ?_
  refine WL.p (by rfl) (Yl.assign (by rfl)) ?_
  refine WL.next ?_
  refine WC.seq' ?_
  refine WC.seq ?_
  refine WL.p (by rfl) (Yl.move (by rfl)) ?_
  refine WL.p (by rfl) (Yl.len_sl slu53 (by rfl)) ?_
  refine WL.p (by rfl) (Yl.move (by rfl)) ?_
  refine WL.p (by rfl) (Yl.len_sl slu53 (by rfl)) ?_
  refine WL.p (by rfl) (Yl.nei (by rfl) (by rfl)) ?_
  refine WL.next ?_
  refine WC.condS (by rfl) (fun h1 => ?_) (fun h1 => ?_)
  ·
    replace h1 := not_eq_true h1
    replace h1 := of_decide_eq_false h1
    refine WC.seq ?_
    refine WL.p (by rfl) (Yl.assign (by rfl)) ?_
    refine WL.next ?_
    refine WC.ret ?_
    refine At.thenret ?_
    refine fin1' rfl (by rfl) ?_
    refine RetP.mk hs ?_
    have hne : ¬ a.l = b.l := by
      intro h
      have h2 := congrArg List.length h
      try simp at h2
      omega
    simp only [hne, decide_false]
  ·
    replace h1 := not_eq_false h1
    replace h1 := of_decide_eq_true h1
    refine WC.skipn ?_
    refine WC.seq' ?_
    refine WC.seq ?_
    refine WL.p (by rfl) (Yl.assign (by rfl)) ?_
    refine WL.next ?_
    refine WC.block ?_
    refine WC.loopC (ι := Nat) (fun k => a.l.length - k) (fun k => [(5, I (k : Int))]) (fun _ => []) (fun k => decide (a.l = b.l) = decide (a.l.drop k = b.l.drop k)) [(0, _), (1, _), (6, _), (7, _), (8, _), (9, _), (10, _)] 0 (hs) ⟨by rfl, by rfl, by rfl, by rfl, by rfl, by rfl, by rfl, trivial⟩ ⟨by rfl, trivial⟩ ?_ ?_
    ·
      simp
    clear hs; rintro k w hJ hs
    simp only [List.nil_append] at hs
    refine WC.seq' ?_
    refine WC.seq ?_
    refine WL.p (by rfl) (Yl.move (by rfl)) ?_
    refine WL.p (by rfl) (Yl.move (by rfl)) ?_
    refine WL.p (by rfl) (Yl.len_sl slu53 (by rfl)) ?_
    refine WL.p (by rfl) (Yl.lss (by rfl) (by rfl)) ?_
    refine WL.next ?_
    refine WC.condS (by rfl) (fun h2 => ?_) (fun h2 => ?_)
    ·
      replace h2 := of_decide_eq_true h2
      obtain ⟨d, hd⟩ := exists_get (l := a.l) (k := k) (by omega)
      obtain ⟨d2, hd2⟩ := exists_get (l := b.l) (k := k) (by omega)
      rw [drop_cons hd, drop_cons hd2] at hJ
      refine WC.skipn ?_
      refine WC.seq' ?_
      refine WC.block ?_
      refine WC.quietn mixed (by kernel_rfl) hs ?_
      refine WQ.p (by rfl) (fun w hs => Yl.move (by rfl)) ?_
      refine WQ.p (by rfl) (fun w hs => Yl.move (by rfl)) ?_
      refine WQ.p (by rfl) (fun w hs => Yl.indexAddr slt53 (by rfl) (by rfl) (Ph.old h_a hs) (by rfl) (hd)) ?_
      refine WQ.p (by rfl) (fun w hs => Yl.loadC0 sca9 (by rfl) (Sl.Ok.at_ (Ph.old h_a hs) (by assumption)).2 (by rfl)) ?_
      refine WQ.p (by rfl) (fun w hs => Yl.move (by rfl)) ?_
      refine WQ.p (by rfl) (fun w hs => Yl.move (by rfl)) ?_
      refine WQ.p (by rfl) (fun w hs => Yl.indexAddr slt53 (by rfl) (by rfl) (Ph.old h_b hs) (by rfl) (hd2)) ?_
      refine WQ.p (by rfl) (fun w hs => Yl.loadC0 sca9 (by rfl) (Sl.Ok.at_ (Ph.old h_b hs) (by assumption)).2 (by rfl)) ?_
      refine WQ.p (by rfl) (fun w hs => Yl.nes (by rfl) (by rfl)) ?_
      refine WQ.next ?_
      clear hs; intro w hs
      refine WC.condS (by rfl) (fun h3 => ?_) (fun h3 => ?_)
      ·
        replace h3 := not_eq_true h3
        replace h3 := of_decide_eq_false h3
        refine WC.seq ?_
        refine WL.p (by rfl) (Yl.assign (by rfl)) ?_
        refine WL.next ?_
        refine WC.ret ?_
        refine At.blockret ?_
        refine At.thenret ?_
        refine At.thenret ?_
        refine At.blockret ?_
        refine At.thenret ?_
        refine fin1' rfl (by rfl) ?_
        refine RetP.mk hs ?_
        rw [hJ]; simp_all
      ·
        replace h3 := not_eq_false h3
        replace h3 := of_decide_eq_true h3
        refine WC.skip ?_
        refine At.blocknormal ?_
        refine At.then_ ?_
        refine WC.region ?_
        refine WL.p (by rfl) (Yl.move (by rfl)) ?_
        refine WL.p (by rfl) (Yl.add (by rfl) (by rfl) (by omega)) ?_
        refine WL.p (by rfl) (Yl.assign (by rfl)) ?_
        refine WL.nil ?_
        refine At.roundC (k + 1) (hs.only (by repeat (first | exact Sel.nil | (apply Sel.cons; (repeat (first | exact Ext.here | apply Ext.there)))))) ⟨by rfl, by rfl, by rfl, by rfl, by rfl, by rfl, by rfl, trivial⟩ ⟨by rfl, trivial⟩ ?_ ?_
        ·
          omega
        ·
          rw [hJ]; simp_all
    ·
      replace h2 := of_decide_eq_false h2
      rw [drop_out (l := a.l) (by omega), drop_out (l := b.l) (by omega)] at hJ
      refine WC.exit ?_
      refine At.thenexit ?_
      refine At.thenexit ?_
      refine At.blockexit ?_
      refine At.then_ ?_
      refine WC.seq ?_
      refine WL.p (by rfl) (Yl.assign (by rfl)) ?_
      refine WL.next ?_
      refine WC.ret ?_
      refine fin1' rfl (by rfl) ?_
      refine RetP.mk hs ?_
      rw [hJ]; simp_all

theorem c_laws_eqPolicy (a : PPolicy) (b : PPolicy) (w : World) (h_a : Ph.ok w a) (h_b : Ph.ok w b)  : Calls Tryz.prog 31 [.agg #[Bo a.set, Sl.v a.scripts, Sl.v a.styles, Sl.v a.images, S a.nonce], .agg #[Bo b.set, Sl.v b.scripts, Sl.v b.styles, Sl.v b.images, S b.nonce]].toArray w (RetP w (Bo (decide (a.lg = b.lg)))) := by
  refine enterN 33 Tryz.func31 rfl rfl rfl ?_
  have hs := Sat.start w
  refine WC.seq ?_
  refine WL.r (by rfl) (Yr.box hs (by rfl) (by rfl)) ?_
  clear hs; rintro _ w ⟨b1, rfl, hb, hs⟩; clear hb
  refine WL.r (by rfl) (Yr.box hs (by rfl) (by rfl)) ?_
  clear hs; rintro _ w ⟨b2, rfl, hb, hs⟩; clear hb
  refine WL.p (by rfl) (Yl.assign (by rfl)) ?_
  refine WL.next ?_
  refine WC.seq' ?_
  refine WC.seq ?_
  refine WL.p (by rfl) (Yl.fieldAddr fa63_0 (by rfl)) ?_
  refine WL.p (by rfl) (Yl.loadB sca4 (by rfl) hs (by repeat (first | exact List.mem_cons_self | apply List.mem_cons_of_mem)) (by rfl)) ?_
  refine WL.p (by rfl) (Yl.fieldAddr fa63_0 (by rfl)) ?_
  refine WL.p (by rfl) (Yl.loadB sca4 (by rfl) hs (by repeat (first | exact List.mem_cons_self | apply List.mem_cons_of_mem)) (by rfl)) ?_
  refine WL.p (by rfl) (Yl.neb bool4 (by rfl) (by rfl)) ?_
  refine WL.next ?_
  refine WC.condS (by rfl) (fun h1 => ?_) (fun h1 => ?_)
  ·
    replace h1 := not_eq_true h1
    replace h1 := beq_false h1
    refine WC.seq ?_
    refine WL.p (by rfl) (Yl.assign (by rfl)) ?_
    refine WL.next ?_
    refine WC.ret ?_
    refine At.thenret ?_
    refine fin1' rfl (by rfl) ?_
    refine RetP.mk hs ?_
    simp_all [TPolicy.ext_iff]
  ·
    replace h1 := not_eq_false h1
    replace h1 := beq_true h1
    refine WC.skipn ?_
    refine WC.seq' ?_
    refine WC.seq ?_
    refine WL.p (by rfl) (Yl.fieldAddr fa63_1 (by rfl)) ?_
    refine WL.p (by rfl) (Yl.loadB sca53 (by rfl) hs (by repeat (first | exact List.mem_cons_self | apply List.mem_cons_of_mem)) (by rfl)) ?_
    refine WL.p (by rfl) (Yl.fieldAddr fa63_1 (by rfl)) ?_
    refine WL.p (by rfl) (Yl.loadB sca53 (by rfl) hs (by repeat (first | exact List.mem_cons_self | apply List.mem_cons_of_mem)) (by rfl)) ?_
    refine WL.callp hs (by rfl) (Yc.func (by rfl) fn51) (c_laws_eqStringS _ _ _ (Ph.old h_a.scripts hs) (Ph.old h_b.scripts hs)) ?_
    clear hs; intro w hs
    refine WL.p (by rfl) (Yl.not (by rfl)) ?_
    refine WL.next ?_
    refine WC.condS (by rfl) (fun h2 => ?_) (fun h2 => ?_)
    ·
      replace h2 := not_eq_true h2
      replace h2 := of_decide_eq_false h2
      refine WC.seq ?_
      refine WL.p (by rfl) (Yl.assign (by rfl)) ?_
      refine WL.next ?_
      refine WC.ret ?_
      refine At.thenret ?_
      refine fin1' rfl (by rfl) ?_
      refine RetP.mk hs ?_
      simp_all [TPolicy.ext_iff]
    ·
      replace h2 := not_eq_false h2
      replace h2 := of_decide_eq_true h2
      refine WC.skipn ?_
      refine WC.seq' ?_
      refine WC.seq ?_
      refine WL.p (by rfl) (Yl.fieldAddr fa63_2 (by rfl)) ?_
      refine WL.p (by rfl) (Yl.loadB sca53 (by rfl) hs (by repeat (first | exact List.mem_cons_self | apply List.mem_cons_of_mem)) (by rfl)) ?_
      refine WL.p (by rfl) (Yl.fieldAddr fa63_2 (by rfl)) ?_
      refine WL.p (by rfl) (Yl.loadB sca53 (by rfl) hs (by repeat (first | exact List.mem_cons_self | apply List.mem_cons_of_mem)) (by rfl)) ?_
      refine WL.callp hs (by rfl) (Yc.func (by rfl) fn51) (c_laws_eqStringS _ _ _ (Ph.old h_a.styles hs) (Ph.old h_b.styles hs)) ?_
      clear hs; intro w hs
      refine WL.p (by rfl) (Yl.not (by rfl)) ?_
      refine WL.next ?_
      refine WC.condS (by rfl) (fun h3 => ?_) (fun h3 => ?_)
      ·
        replace h3 := not_eq_true h3
        replace h3 := of_decide_eq_false h3
        refine WC.seq ?_
        refine WL.p (by rfl) (Yl.assign (by rfl)) ?_
        refine WL.next ?_
        refine WC.ret ?_
        refine At.thenret ?_
        refine fin1' rfl (by rfl) ?_
        refine RetP.mk hs ?_
        simp_all [TPolicy.ext_iff]
      ·
        replace h3 := not_eq_false h3
        replace h3 := of_decide_eq_true h3
        refine WC.skipn ?_
        refine WC.seq' ?_
        refine WC.seq ?_
        refine WL.p (by rfl) (Yl.fieldAddr fa63_3 (by rfl)) ?_
        refine WL.p (by rfl) (Yl.loadB sca53 (by rfl) hs (by repeat (first | exact List.mem_cons_self | apply List.mem_cons_of_mem)) (by rfl)) ?_
        refine WL.p (by rfl) (Yl.fieldAddr fa63_3 (by rfl)) ?_
        refine WL.p (by rfl) (Yl.loadB sca53 (by rfl) hs (by repeat (first | exact List.mem_cons_self | apply List.mem_cons_of_mem)) (by rfl)) ?_
        refine WL.callp hs (by rfl) (Yc.func (by rfl) fn51) (c_laws_eqStringS _ _ _ (Ph.old h_a.images hs) (Ph.old h_b.images hs)) ?_
        clear hs; intro w hs
        refine WL.p (by rfl) (Yl.not (by rfl)) ?_
        refine WL.next ?_
        refine WC.condS (by rfl) (fun h4 => ?_) (fun h4 => ?_)
        ·
          replace h4 := not_eq_true h4
          replace h4 := of_decide_eq_false h4
          refine WC.seq ?_
          refine WL.p (by rfl) (Yl.assign (by rfl)) ?_
          refine WL.next ?_
          refine WC.ret ?_
          refine At.thenret ?_
          refine fin1' rfl (by rfl) ?_
          refine RetP.mk hs ?_
          simp_all [TPolicy.ext_iff]
        ·
          replace h4 := not_eq_false h4
          replace h4 := of_decide_eq_true h4
          refine WC.skipn ?_
          refine WC.seq' ?_
          refine WC.seq ?_
          refine WL.p (by rfl) (Yl.fieldAddr fa63_4 (by rfl)) ?_
          refine WL.p (by rfl) (Yl.loadB sca9 (by rfl) hs (by repeat (first | exact List.mem_cons_self | apply List.mem_cons_of_mem)) (by rfl)) ?_
          refine WL.p (by rfl) (Yl.fieldAddr fa63_4 (by rfl)) ?_
          refine WL.p (by rfl) (Yl.loadB sca9 (by rfl) hs (by repeat (first | exact List.mem_cons_self | apply List.mem_cons_of_mem)) (by rfl)) ?_
          refine WL.p (by rfl) (Yl.nes (by rfl) (by rfl)) ?_
          refine WL.next ?_
          refine WC.condS (by rfl) (fun h5 => ?_) (fun h5 => ?_)
          ·
            replace h5 := not_eq_true h5
            replace h5 := of_decide_eq_false h5
            refine WC.seq ?_
            refine WL.p (by rfl) (Yl.assign (by rfl)) ?_
            refine WL.next ?_
            refine WC.ret ?_
            refine At.thenret ?_
            refine fin1' rfl (by rfl) ?_
            refine RetP.mk hs ?_
            simp_all [TPolicy.ext_iff]
          ·
            replace h5 := not_eq_false h5
            replace h5 := of_decide_eq_true h5
            refine WC.skipn ?_
            refine WC.seq ?_
            refine WL.p (by rfl) (Yl.assign (by rfl)) ?_
            refine WL.next ?_
            refine WC.ret ?_
            refine fin1' rfl (by rfl) ?_
            refine RetP.mk hs ?_
            simp_all [TPolicy.ext_iff]

theorem c_laws_FnExactCheckResponse (aP : PPolicy) (aR : TRequest) (aX : TResponse) (w : World) (h_aP : Ph.ok w aP) (h_aR : Ph.ok w aR) (h_aX : Ph.ok w aX) (hm_ : ∃ m, w.cell? ⟨1, 0, none⟩ = some (.int .i64 m)) (ht_ : Tab10 Tryz.prog w) : Calls Tryz.prog 5 [.agg #[Bo aP.set, Sl.v aP.scripts, Sl.v aP.styles, Sl.v aP.images, S aP.nonce], .agg #[I aR.kind, S aR.to.host, S aR.to.path, S aR.frm, S aR.digest], .agg #[I aX.status, I aX.kind, S aX.body, I aX.age, Bo aX.shares, S aX.policy]].toArray w (RetP w (Bo true)) := by
  refine enterN 49 Tryz.func5 rfl rfl rfl ?_
  have hs := Sat.start w
  refine WC.seq ?_
  refine WL.r (by rfl) (Yr.box hs (by rfl) (by rfl)) ?_
  clear hs; rintro _ w ⟨b1, rfl, hb, hs⟩; clear hb
  refine WL.r (by rfl) (Yr.box hs (by rfl) (by rfl)) ?_
  clear hs; rintro _ w ⟨b2, rfl, hb, hs⟩; clear hb
  refine WL.r (by rfl) (Yr.box hs (by rfl) (by rfl)) ?_
  clear hs; rintro _ w ⟨b3, rfl, hb, hs⟩; clear hb
  refine WL.p (by rfl) (Yl.assign (by rfl)) ?_
  refine WL.next ?_
  refine WC.seq ?_
  refine WL.p (by rfl) (Yl.assign (by rfl)) ?_
  refine WL.next ?_
  refine WC.seq ?_
  refine WL.p (by rfl) (Yl.loadAB agg55 (by rfl) hs (by repeat (first | exact List.mem_cons_self | apply List.mem_cons_of_mem)) (by rfl) (by rfl)) ?_
  refine WL.p (by rfl) (Yl.move (by rfl)) ?_
  refine WL.callp hs (by rfl) (Yc.func (by rfl) fn23) (c_laws_szPolicy _ _ _ (Ph.old h_aP hs) (by first | assumption | omega | (simp only [lsz] at *; omega) | (simp only [lsz, strsz, TPolicy.size, TCache.size, TAddr.size, TRequest.size, TEntry.size, TResponse.size, TLine.size] at *; omega) | (simp only [lsz_map, TPage.size, TBuilder.size, TNode.size, TToken.size, TTokenizer.size, TServer.size, TFile.size, TNet.size, TCache.size, TSheet.size, strsz] at *; omega) | (simp only [lsz_map, TPage.size, TBuilder.size, TNode.size, TToken.size, TTokenizer.size, TServer.size, TFile.size, TNet.size, TCache.size, TSheet.size, strsz, lsz] at *; omega)) (by first | assumption | omega | (simp only [lsz] at *; omega) | (simp only [lsz, strsz, TPolicy.size, TCache.size, TAddr.size, TRequest.size, TEntry.size, TResponse.size, TLine.size] at *; omega) | (simp only [lsz_map, TPage.size, TBuilder.size, TNode.size, TToken.size, TTokenizer.size, TServer.size, TFile.size, TNet.size, TCache.size, TSheet.size, strsz] at *; omega) | (simp only [lsz_map, TPage.size, TBuilder.size, TNode.size, TToken.size, TTokenizer.size, TServer.size, TFile.size, TNet.size, TCache.size, TSheet.size, strsz, lsz] at *; omega))) ?_
  clear hs; intro w hs
  refine WL.p (by rfl) (Yl.assign (by rfl)) ?_
  refine WL.next ?_
  refine WC.seq' ?_
  refine WC.seq ?_
  refine WL.p (by rfl) (Yl.move (by rfl)) ?_
  refine WL.p (by rfl) (Yl.lss (by rfl) (by rfl)) ?_
  refine WL.next ?_
  refine WC.condS (by rfl) (fun h1 => ?_) (fun h1 => ?_)
  ·
    replace h1 := lessN_neg (of_decide_eq_true h1)
    refine WC.seq ?_
    refine WL.p (by rfl) (Yl.assign (by rfl)) ?_
    refine WL.next ?_
    refine WC.ret ?_
    refine At.thenret ?_
    refine fin1' rfl (by rfl) ?_
    refine RetP.mk hs ?_
    simp_all
  ·
    replace h1 := lessN_nn (by omega) (of_decide_eq_false h1)
    refine WC.skipn ?_
    refine WC.seq ?_
    refine WL.p (by rfl) (Yl.loadAB agg57 (by rfl) hs (by repeat (first | exact List.mem_cons_self | apply List.mem_cons_of_mem)) (by rfl) (by rfl)) ?_
    refine WL.p (by rfl) (Yl.move (by rfl)) ?_
    refine WL.callp hs (by rfl) (Yc.func (by rfl) fn24) (c_laws_szRequest _ _ _ (Ph.old h_aR hs) (by first | assumption | omega | (simp only [lsz] at *; omega) | (simp only [lsz, strsz, TPolicy.size, TCache.size, TAddr.size, TRequest.size, TEntry.size, TResponse.size, TLine.size] at *; omega) | (simp only [lsz_map, TPage.size, TBuilder.size, TNode.size, TToken.size, TTokenizer.size, TServer.size, TFile.size, TNet.size, TCache.size, TSheet.size, strsz] at *; omega) | (simp only [lsz_map, TPage.size, TBuilder.size, TNode.size, TToken.size, TTokenizer.size, TServer.size, TFile.size, TNet.size, TCache.size, TSheet.size, strsz, lsz] at *; omega)) (by first | assumption | omega | (simp only [lsz] at *; omega) | (simp only [lsz, strsz, TPolicy.size, TCache.size, TAddr.size, TRequest.size, TEntry.size, TResponse.size, TLine.size] at *; omega) | (simp only [lsz_map, TPage.size, TBuilder.size, TNode.size, TToken.size, TTokenizer.size, TServer.size, TFile.size, TNet.size, TCache.size, TSheet.size, strsz] at *; omega) | (simp only [lsz_map, TPage.size, TBuilder.size, TNode.size, TToken.size, TTokenizer.size, TServer.size, TFile.size, TNet.size, TCache.size, TSheet.size, strsz, lsz] at *; omega))) ?_
    clear hs; intro w hs
    refine WL.p (by rfl) (Yl.assign (by rfl)) ?_
    refine WL.next ?_
    refine WC.seq' ?_
    refine WC.seq ?_
    refine WL.p (by rfl) (Yl.move (by rfl)) ?_
    refine WL.p (by rfl) (Yl.lss (by rfl) (by rfl)) ?_
    refine WL.next ?_
    refine WC.condS (by rfl) (fun h2 => ?_) (fun h2 => ?_)
    ·
      replace h2 := lessN_neg (of_decide_eq_true h2)
      refine WC.seq ?_
      refine WL.p (by rfl) (Yl.assign (by rfl)) ?_
      refine WL.next ?_
      refine WC.ret ?_
      refine At.thenret ?_
      refine fin1' rfl (by rfl) ?_
      refine RetP.mk hs ?_
      simp_all
    ·
      replace h2 := lessN_nn (by omega) (of_decide_eq_false h2)
      refine WC.skipn ?_
      refine WC.seq ?_
      refine WL.p (by rfl) (Yl.loadAB agg58 (by rfl) hs (by repeat (first | exact List.mem_cons_self | apply List.mem_cons_of_mem)) (by rfl) (by rfl)) ?_
      refine WL.p (by rfl) (Yl.move (by rfl)) ?_
      refine WL.callp hs (by rfl) (Yc.func (by rfl) fn25) (c_laws_szResponse _ _ _ (Ph.old h_aX hs) (by first | assumption | omega | (simp only [lsz] at *; omega) | (simp only [lsz, strsz, TPolicy.size, TCache.size, TAddr.size, TRequest.size, TEntry.size, TResponse.size, TLine.size] at *; omega) | (simp only [lsz_map, TPage.size, TBuilder.size, TNode.size, TToken.size, TTokenizer.size, TServer.size, TFile.size, TNet.size, TCache.size, TSheet.size, strsz] at *; omega) | (simp only [lsz_map, TPage.size, TBuilder.size, TNode.size, TToken.size, TTokenizer.size, TServer.size, TFile.size, TNet.size, TCache.size, TSheet.size, strsz, lsz] at *; omega)) (by first | assumption | omega | (simp only [lsz] at *; omega) | (simp only [lsz, strsz, TPolicy.size, TCache.size, TAddr.size, TRequest.size, TEntry.size, TResponse.size, TLine.size] at *; omega) | (simp only [lsz_map, TPage.size, TBuilder.size, TNode.size, TToken.size, TTokenizer.size, TServer.size, TFile.size, TNet.size, TCache.size, TSheet.size, strsz] at *; omega) | (simp only [lsz_map, TPage.size, TBuilder.size, TNode.size, TToken.size, TTokenizer.size, TServer.size, TFile.size, TNet.size, TCache.size, TSheet.size, strsz, lsz] at *; omega))) ?_
      clear hs; intro w hs
      refine WL.p (by rfl) (Yl.assign (by rfl)) ?_
      refine WL.next ?_
      refine WC.seq' ?_
      refine WC.seq ?_
      refine WL.p (by rfl) (Yl.move (by rfl)) ?_
      refine WL.p (by rfl) (Yl.lss (by rfl) (by rfl)) ?_
      refine WL.next ?_
      refine WC.condS (by rfl) (fun h3 => ?_) (fun h3 => ?_)
      ·
        replace h3 := lessN_neg (of_decide_eq_true h3)
        refine WC.seq ?_
        refine WL.p (by rfl) (Yl.assign (by rfl)) ?_
        refine WL.next ?_
        refine WC.ret ?_
        refine At.thenret ?_
        refine fin1' rfl (by rfl) ?_
        refine RetP.mk hs ?_
        simp_all
      ·
        replace h3 := lessN_nn (by omega) (of_decide_eq_false h3)
        refine WC.skipn ?_
        refine WC.anyn mixed hs ?_
        clear hs; intro w hs
        refine WA.p (i := 0) (by rfl) (by kernel_rfl) (by kernel_rfl) (by kernel_rfl) (by rfl) (hs.only (by repeat (first | exact Sel.nil | (apply Sel.cons; (repeat (first | exact Ext.here | apply Ext.there)))))) (fun w hs => Yl.loadAB agg55 (by rfl) hs (by repeat (first | exact List.mem_cons_self | apply List.mem_cons_of_mem)) (by rfl) (by rfl)) ?_
        refine WA.p (i := 2) (by rfl) (by kernel_rfl) (by kernel_rfl) (by kernel_rfl) (by rfl) (hs.only (by repeat (first | exact Sel.nil | (apply Sel.cons; (repeat (first | exact Ext.here | apply Ext.there)))))) (fun w hs => Yl.loadAB agg57 (by rfl) hs (by repeat (first | exact List.mem_cons_self | apply List.mem_cons_of_mem)) (by rfl) (by rfl)) ?_
        refine WA.p (i := 4) (by rfl) (by kernel_rfl) (by kernel_rfl) (by kernel_rfl) (by rfl) (hs.only (by repeat (first | exact Sel.nil | (apply Sel.cons; (repeat (first | exact Ext.here | apply Ext.there)))))) (fun w hs => Yl.loadAB agg58 (by rfl) hs (by repeat (first | exact List.mem_cons_self | apply List.mem_cons_of_mem)) (by rfl) (by rfl)) ?_
        refine WA.call2 (i := 1) hs (fun _ hs => hs.only (by repeat (first | exact Sel.nil | (apply Sel.cons; (repeat (first | exact Ext.here | apply Ext.there)))))) (by kernel_rfl) (by rfl) (by rfl) (Yc.func (by rfl) fn27) (c_laws_toPolicy _ _ (Ph.old h_aP hs) (by first | assumption | omega | (simp only [lsz] at *; omega) | (simp only [lsz, strsz, TPolicy.size, TCache.size, TAddr.size, TRequest.size, TEntry.size, TResponse.size, TLine.size] at *; omega) | (simp only [lsz_map, TPage.size, TBuilder.size, TNode.size, TToken.size, TTokenizer.size, TServer.size, TFile.size, TNet.size, TCache.size, TSheet.size, strsz] at *; omega) | (simp only [lsz_map, TPage.size, TBuilder.size, TNode.size, TToken.size, TTokenizer.size, TServer.size, TFile.size, TNet.size, TCache.size, TSheet.size, strsz, lsz] at *; omega))) ?_
        have hs0 := hs; clear hs; intro v w hb hR hs; clear hs
        obtain ⟨x4, rfl, hx4, hf4⟩ := hR
        obtain ⟨F4, hs⟩ := hf4.sat hs0 hb; clear hs0 hf4
        refine WA.callp2 (i := 3) hs (fun _ hs => hs.only (by repeat (first | exact Sel.nil | (apply Sel.cons; (repeat (first | exact Ext.here | apply Ext.there)))))) (by kernel_rfl) (by rfl) (by rfl) (Yc.func (by rfl) fn28) (c_laws_toRequest _ _) ?_
        clear hs; intro w hs
        refine WA.callp2 (i := 5) hs (fun _ hs => hs.only (by repeat (first | exact Sel.nil | (apply Sel.cons; (repeat (first | exact Ext.here | apply Ext.there)))))) (by kernel_rfl) (by rfl) (by rfl) (Yc.func (by rfl) fn29) (c_laws_toResponse _ _) ?_
        clear hs; intro w hs
        refine WA.callp2 (i := 6) hs (fun _ hs => hs.only (by repeat (first | exact Sel.nil | (apply Sel.cons; (repeat (first | exact Ext.here | apply Ext.there)))))) (by kernel_rfl) (by rfl) (by rfl) (Yc.func (by rfl) fn26) (c_spec_CheckResponse _ _ _ _ (hs.okow (x := x4) (F := F4) (by repeat (first | exact List.mem_cons_self | apply List.mem_cons_of_mem))) (Ph.old h_aR hs) (Ph.old h_aX hs) (by first | omega | (simp only [TResponse.size, TRequest.size] at *; omega)) (by first | omega | (simp only [TResponse.size, TRequest.size] at *; omega))) ?_
        clear hs; intro w hs
        refine WA.p (i := 7) (by rfl) (by kernel_rfl) (by kernel_rfl) (by kernel_rfl) (by rfl) (hs.only (by repeat (first | exact Sel.nil | (apply Sel.cons; (repeat (first | exact Ext.here | apply Ext.there)))))) (fun w hs => Yl.assign (by rfl)) ?_
        refine WA.donen (by kernel_rfl) ?_
        refine WC.seq ?_
        refine WL.p (by rfl) (Yl.loadAB agg55 (by rfl) hs (by repeat (first | exact List.mem_cons_self | apply List.mem_cons_of_mem)) (by rfl) (by rfl)) ?_
        refine WL.call hs (by rfl) (Yc.func (by rfl) fn27) (c_laws_toPolicy _ _ (Ph.old h_aP hs) (by first | assumption | omega | (simp only [lsz] at *; omega) | (simp only [lsz, strsz, TPolicy.size, TCache.size, TAddr.size, TRequest.size, TEntry.size, TResponse.size, TLine.size] at *; omega) | (simp only [lsz_map, TPage.size, TBuilder.size, TNode.size, TToken.size, TTokenizer.size, TServer.size, TFile.size, TNet.size, TCache.size, TSheet.size, strsz] at *; omega) | (simp only [lsz_map, TPage.size, TBuilder.size, TNode.size, TToken.size, TTokenizer.size, TServer.size, TFile.size, TNet.size, TCache.size, TSheet.size, strsz, lsz] at *; omega))) ?_
        have hs0 := hs; clear hs; intro v w hb hR hs; clear hs
        obtain ⟨x5, rfl, hx5, hf5⟩ := hR
        obtain ⟨F5, hs⟩ := hf5.sat hs0 hb; clear hs0 hf5
        refine WL.r (by rfl) (Yr.alloc hs zt63) ?_
        clear hs; rintro _ w ⟨b6, rfl, hb, hs⟩; clear hb
        refine WL.s (Yr.storeB hs (by rfl) (by rfl) (by rfl) (by repeat (first | exact Repl.here | apply Repl.there)) (by repeat (first | (apply SetAt.here; repeat (first | exact Over.nil | apply Over.cons)) | apply SetAt.there)) (by rfl) (by exact szf63)) ?_
        clear hs; rintro _ w hs
        refine WL.next ?_
        refine WC.quietn mixed (by kernel_rfl) hs ?_
        refine WQ.p (by rfl) (fun w hs => Yl.loadAB agg63 (by rfl) hs (by repeat (first | exact List.mem_cons_self | apply List.mem_cons_of_mem)) (by rfl) (by rfl)) ?_
        refine WQ.p (by rfl) (fun w hs => Yl.loadAB agg57 (by rfl) hs (by repeat (first | exact List.mem_cons_self | apply List.mem_cons_of_mem)) (by rfl) (by rfl)) ?_
        refine WQ.callp (by rfl) (fun w => Yc.func (by rfl) fn28) (fun w hs => (c_laws_toRequest _ _)) (fun _ _ hs hb => hs.ext hb) ?_
        refine WQ.p (by rfl) (fun w hs => Yl.loadAB agg58 (by rfl) hs (by repeat (first | exact List.mem_cons_self | apply List.mem_cons_of_mem)) (by rfl) (by rfl)) ?_
        refine WQ.callp (by rfl) (fun w => Yc.func (by rfl) fn29) (fun w hs => (c_laws_toResponse _ _)) (fun _ _ hs hb => hs.ext hb) ?_
        refine WQ.callp (by rfl) (fun w => Yc.func (by rfl) fn30) (fun w hs => (c_impl_CheckResponse _ _ _ _ (hs.okow (x := x5) (F := F5) (by repeat (first | exact List.mem_cons_self | apply List.mem_cons_of_mem))) (Ph.old h_aR hs) (Ph.old h_aX hs) (by first | omega | (simp only [TResponse.size, TRequest.size] at *; omega)) (by first | omega | (simp only [TResponse.size, TRequest.size] at *; omega)) (by first | assumption | exact Sat.cellm hs (by assumption)) (by first | assumption | exact Sat.tab hs (by assumption)))) (fun _ _ hs hb => hs.ext hb) ?_
        refine WQ.p (by rfl) (fun w hs => Yl.assign (by rfl)) ?_
        refine WQ.next ?_
        clear hs; intro w hs
        refine WC.seq' ?_
        refine WC.seq ?_
        refine WL.p (by rfl) (Yl.move (by rfl)) ?_
        refine WL.p (by rfl) (Yl.move (by rfl)) ?_
        refine WL.p (by rfl) (Yl.nei (by rfl) (by rfl)) ?_
        refine WL.next ?_
        refine WC.condS (by rfl) (fun h4 => ?_) (fun h4 => ?_)
        ·
          replace h4 := not_eq_true h4
          replace h4 := of_decide_eq_false h4
          refine WC.seq ?_
          refine WL.p (by rfl) (Yl.assign (by rfl)) ?_
          refine WL.next ?_
          refine WC.ret ?_
          refine At.thenret ?_
          refine fin1' rfl (by rfl) ?_
          refine RetP.mk hs ?_
          try simp only [hx4, hx5] at h1
          try simp only [hx4, hx5] at h2
          try simp only [hx4, hx5] at h3
          try simp only [hx4, hx5] at h4
          all_goals (first | (simp only [hx4, hx5]; done) | (exfalso; omega) | simp_all)
        ·
          replace h4 := not_eq_false h4
          replace h4 := of_decide_eq_true h4
          refine WC.skipn ?_
          refine WC.seq' ?_
          refine WC.anyn mixed hs ?_
          clear hs; intro w hs
          refine WA.p (i := 0) (by rfl) (by kernel_rfl) (by kernel_rfl) (by kernel_rfl) (by rfl) (hs.only (by repeat (first | exact Sel.nil | (apply Sel.cons; (repeat (first | exact Ext.here | apply Ext.there)))))) (fun w hs => Yl.loadAB agg63 (by rfl) hs (by repeat (first | exact List.mem_cons_self | apply List.mem_cons_of_mem)) (by rfl) (by rfl)) ?_
          refine WA.p (i := 1) (by rfl) (by kernel_rfl) (by kernel_rfl) (by kernel_rfl) (by rfl) (hs.only (by repeat (first | exact Sel.nil | (apply Sel.cons; (repeat (first | exact Ext.here | apply Ext.there)))))) (fun w hs => Yl.loadAB agg55 (by rfl) hs (by repeat (first | exact List.mem_cons_self | apply List.mem_cons_of_mem)) (by rfl) (by rfl)) ?_
          refine WA.call2 (i := 2) hs (fun _ hs => hs.only (by repeat (first | exact Sel.nil | (apply Sel.cons; (repeat (first | exact Ext.here | apply Ext.there)))))) (by kernel_rfl) (by rfl) (by rfl) (Yc.func (by rfl) fn27) (c_laws_toPolicy _ _ (Ph.old h_aP hs) (by first | assumption | omega | (simp only [lsz] at *; omega) | (simp only [lsz, strsz, TPolicy.size, TCache.size, TAddr.size, TRequest.size, TEntry.size, TResponse.size, TLine.size] at *; omega) | (simp only [lsz_map, TPage.size, TBuilder.size, TNode.size, TToken.size, TTokenizer.size, TServer.size, TFile.size, TNet.size, TCache.size, TSheet.size, strsz] at *; omega) | (simp only [lsz_map, TPage.size, TBuilder.size, TNode.size, TToken.size, TTokenizer.size, TServer.size, TFile.size, TNet.size, TCache.size, TSheet.size, strsz, lsz] at *; omega))) ?_
          have hs0 := hs; clear hs; intro v w hb hR hs; clear hs
          obtain ⟨x7, rfl, hx7, hf7⟩ := hR
          obtain ⟨F7, hs⟩ := hf7.sat hs0 hb; clear hs0 hf7
          refine WA.callp2 (i := 3) hs (fun _ hs => hs.only (by repeat (first | exact Sel.nil | (apply Sel.cons; (repeat (first | exact Ext.here | apply Ext.there)))))) (by kernel_rfl) (by rfl) (by rfl) (Yc.func (by rfl) fn31) (c_laws_eqPolicy _ _ _ (hs.okow (x := x5) (F := F5) (by repeat (first | exact List.mem_cons_self | apply List.mem_cons_of_mem))) (hs.okow (x := x7) (F := F7) (by repeat (first | exact List.mem_cons_self | apply List.mem_cons_of_mem)))) ?_
          clear hs; intro w hs
          refine WA.p (i := 4) (by rfl) (by kernel_rfl) (by kernel_rfl) (by kernel_rfl) (by rfl) (hs.only (by repeat (first | exact Sel.nil | (apply Sel.cons; (repeat (first | exact Ext.here | apply Ext.there)))))) (fun w hs => Yl.not (by rfl)) ?_
          refine WA.donen (by kernel_rfl) ?_
          refine WC.condS (by rfl) (fun h5 => ?_) (fun h5 => ?_)
          ·
            replace h5 := not_eq_true h5
            replace h5 := of_decide_eq_false h5
            refine WC.seq ?_
            refine WL.p (by rfl) (Yl.assign (by rfl)) ?_
            refine WL.next ?_
            refine WC.ret ?_
            refine At.thenret ?_
            refine fin1' rfl (by rfl) ?_
            refine RetP.mk hs ?_
            try simp only [hx4, hx5, hx7] at h1
            try simp only [hx4, hx5, hx7] at h2
            try simp only [hx4, hx5, hx7] at h3
            try simp only [hx4, hx5, hx7] at h4
            try simp only [hx4, hx5, hx7] at h5
            all_goals (first | (simp only [hx4, hx5, hx7]; done) | (exfalso; omega) | simp_all)
          ·
            replace h5 := not_eq_false h5
            replace h5 := of_decide_eq_true h5
            refine WC.skipn ?_
            refine WC.seq ?_
            refine WL.p (by rfl) (Yl.assign (by rfl)) ?_
            refine WL.next ?_
            refine WC.ret ?_
            refine fin1' rfl (by rfl) ?_
            refine RetP.mk hs ?_
            try simp only [hx4, hx5, hx7] at h1
            try simp only [hx4, hx5, hx7] at h2
            try simp only [hx4, hx5, hx7] at h3
            try simp only [hx4, hx5, hx7] at h4
            try simp only [hx4, hx5, hx7] at h5
            all_goals (first | (simp only [hx4, hx5, hx7]; done) | (exfalso; omega) | simp_all)

end Go.Sw
