/- Walks: what each function of the program returns, for every input. Printed by gen.py. -/
import Derived.Test.YtoffmddkjddioaaDoorW2
set_option linter.all false
namespace Go.Sw
open Go Go.RowKit Go.Proofs

theorem c_laws_heldEntryS (a : (Sl TEntry)) (k : Int) (v : List TEntry) (w : World) (h_a : Ph.ok w a) (hk0 : 0 ≤ k) (hk : k + ((costL (fun _ => 10) (v) : Nat) : Int) ≤ 100000000) (hm : a.l = mkL mkEntry (fun _ => 10) k v) : Calls Tryd.prog 83 [Sl.v a, I k].toArray w (RetP w (I (k + ((costL (fun _ => 10) (v) : Nat) : Int)))) := by
  have hw := h_a.lt
  have hc : a.l.length = v.length := by rw [hm, mkL_length]
  have hk2 := hk
  rw [costL_const] at hk2
  refine enterN 118 Tryd.func83 rfl rfl rfl ?_
  have hs := Sat.start w
  refine WC.seq ?_
  refine WL.p (by rfl) (Yl.assign (by rfl)) ?_
  refine WL.next ?_
  refine WC.seq' ?_
  refine WC.seq ?_
  refine WL.p (by rfl) (Yl.assign (by rfl)) ?_
  refine WL.next ?_
  refine WC.block ?_
  refine WC.loopC (ι := Nat) (fun n => a.l.length - n) (fun n => [(5, I (n : Int)), (1, I (k + ((10 * n : Nat) : Int)))]) (fun _ => []) (fun n => n ≤ a.l.length) [(0, _)] 0 (hs) ⟨by rfl, trivial⟩ ⟨by rfl, by exact congrArg (fun z => some (I z)) (by omega), trivial⟩ ?_ ?_
  ·
    exact Nat.zero_le _
  clear hs; rintro n w hJ1 hs
  simp only [List.nil_append] at hs
  refine WC.seq' ?_
  refine WC.seq ?_
  refine WL.p (by rfl) (Yl.move (by rfl)) ?_
  refine WL.p (by rfl) (Yl.move (by rfl)) ?_
  refine WL.p (by rfl) (Yl.len_sl slu58 (by rfl)) ?_
  refine WL.p (by rfl) (Yl.lss (by rfl) (by rfl)) ?_
  refine WL.next ?_
  refine WC.condS (by rfl) (fun h1 => ?_) (fun h1 => ?_)
  ·
    replace h1 := of_decide_eq_true h1
    obtain ⟨y, hy⟩ := exists_get (l := v) (k := n) (by omega)
    have hd : a.l[n]? = some (mkEntry (k + ((10 * n : Nat) : Int)) y) := by rw [hm, mkL_get hy, costL_take_const (by omega)]
    refine WC.skipn ?_
    refine WC.seq' ?_
    refine WC.block ?_
    refine WC.seq' ?_
    refine WC.quietn mixed (by kernel_rfl) hs ?_
    refine WQ.p (by rfl) (fun w hs => Yl.move (by rfl)) ?_
    refine WQ.p (by rfl) (fun w hs => Yl.move (by rfl)) ?_
    refine WQ.p (by rfl) (fun w hs => Yl.indexAddr slt58 (by rfl) (by rfl) (Ph.old h_a hs) (by rfl) (hd)) ?_
    refine WQ.p (by rfl) (fun w hs => Yl.fieldAddr fa106_0 (by rfl)) ?_
    refine WQ.p (by rfl) (fun w hs => Yl.loadC sca9 (by rfl) (Sl.Ok.at_ (Ph.old h_a hs) (by assumption)).2 (by rfl)) ?_
    refine WQ.p (by rfl) (fun w hs => Yl.move (by rfl)) ?_
    refine WQ.callp (by rfl) (fun w => Yc.func (by rfl) fn55) (fun w hs => (c_laws_markText _ _ (by omega))) (fun _ _ hs hb => hs.ext hb) ?_
    refine WQ.p (by rfl) (fun w hs => Yl.nes (by rfl) (by rfl)) ?_
    refine WQ.next ?_
    clear hs; intro w hs
    refine WC.condS (by rfl) (fun h2 => ?_) (fun h2 => ?_)
    ·
      replace h2 := not_eq_true h2
      replace h2 := of_decide_eq_false h2
      refine WC.seq ?_
      refine WL.p (by rfl) (Yl.assign (by rfl)) ?_
      refine WL.next ?_
      refine WC.ret ?_
      refine At.thenret ?_
      refine At.blockret ?_
      refine At.thenret ?_
      refine At.thenret ?_
      refine At.blockret ?_
      refine At.thenret ?_
      refine fin1' rfl (by rfl) ?_
      refine RetP.mk hs ?_
      first
        | exact absurd rfl h2
        | (exfalso; omega)
        | (rw [costL_const]; exact congrArg I (by omega))
    ·
      replace h2 := not_eq_false h2
      replace h2 := of_decide_eq_true h2
      refine WC.skipn ?_
      refine WC.seq ?_
      refine WL.p (by rfl) (Yl.move (by rfl)) ?_
      refine WL.p (by rfl) (Yl.add (by rfl) (by rfl) (by omega)) ?_
      refine WL.p (by rfl) (Yl.assign (by rfl)) ?_
      refine WL.next ?_
      refine WC.seq' ?_
      refine WC.quietn mixed (by kernel_rfl) hs ?_
      refine WQ.p (by rfl) (fun w hs => Yl.move (by rfl)) ?_
      refine WQ.p (by rfl) (fun w hs => Yl.move (by rfl)) ?_
      refine WQ.p (by rfl) (fun w hs => Yl.indexAddr slt58 (by rfl) (by rfl) (Ph.old h_a hs) (by rfl) (hd)) ?_
      refine WQ.p (by rfl) (fun w hs => Yl.fieldAddr fa106_1 (by rfl)) ?_
      refine WQ.p (by rfl) (fun w hs => Yl.fieldAddr2 fa75_0 (by rfl)) ?_
      refine WQ.p (by rfl) (fun w hs => Yl.loadC sca9 (by rfl) (Sl.Ok.at_ (Ph.old h_a hs) (by assumption)).2 (by rfl)) ?_
      refine WQ.p (by rfl) (fun w hs => Yl.move (by rfl)) ?_
      refine WQ.callp (by rfl) (fun w => Yc.func (by rfl) fn55) (fun w hs => (c_laws_markText _ _ (by omega))) (fun _ _ hs hb => hs.ext hb) ?_
      refine WQ.p (by rfl) (fun w hs => Yl.nes (by rfl) (by rfl)) ?_
      refine WQ.next ?_
      clear hs; intro w hs
      refine WC.condS (by rfl) (fun h3 => ?_) (fun h3 => ?_)
      ·
        replace h3 := not_eq_true h3
        replace h3 := of_decide_eq_false h3
        refine WC.seq ?_
        refine WL.p (by rfl) (Yl.assign (by rfl)) ?_
        refine WL.next ?_
        refine WC.ret ?_
        refine At.thenret ?_
        refine At.blockret ?_
        refine At.thenret ?_
        refine At.thenret ?_
        refine At.blockret ?_
        refine At.thenret ?_
        refine fin1' rfl (by rfl) ?_
        refine RetP.mk hs ?_
        first
          | exact absurd rfl h3
          | (exfalso; omega)
          | (rw [costL_const]; exact congrArg I (by omega))
      ·
        replace h3 := not_eq_false h3
        replace h3 := of_decide_eq_true h3
        refine WC.skipn ?_
        refine WC.seq ?_
        refine WL.p (by rfl) (Yl.move (by rfl)) ?_
        refine WL.p (by rfl) (Yl.add (by rfl) (by rfl) (by omega)) ?_
        refine WL.p (by rfl) (Yl.assign (by rfl)) ?_
        refine WL.next ?_
        refine WC.seq' ?_
        refine WC.quietn mixed (by kernel_rfl) hs ?_
        refine WQ.p (by rfl) (fun w hs => Yl.move (by rfl)) ?_
        refine WQ.p (by rfl) (fun w hs => Yl.move (by rfl)) ?_
        refine WQ.p (by rfl) (fun w hs => Yl.indexAddr slt58 (by rfl) (by rfl) (Ph.old h_a hs) (by rfl) (hd)) ?_
        refine WQ.p (by rfl) (fun w hs => Yl.fieldAddr fa106_1 (by rfl)) ?_
        refine WQ.p (by rfl) (fun w hs => Yl.fieldAddr2 fa75_1 (by rfl)) ?_
        refine WQ.p (by rfl) (fun w hs => Yl.loadC sca9 (by rfl) (Sl.Ok.at_ (Ph.old h_a hs) (by assumption)).2 (by rfl)) ?_
        refine WQ.p (by rfl) (fun w hs => Yl.move (by rfl)) ?_
        refine WQ.callp (by rfl) (fun w => Yc.func (by rfl) fn55) (fun w hs => (c_laws_markText _ _ (by omega))) (fun _ _ hs hb => hs.ext hb) ?_
        refine WQ.p (by rfl) (fun w hs => Yl.nes (by rfl) (by rfl)) ?_
        refine WQ.next ?_
        clear hs; intro w hs
        refine WC.condS (by rfl) (fun h4 => ?_) (fun h4 => ?_)
        ·
          replace h4 := not_eq_true h4
          replace h4 := of_decide_eq_false h4
          refine WC.seq ?_
          refine WL.p (by rfl) (Yl.assign (by rfl)) ?_
          refine WL.next ?_
          refine WC.ret ?_
          refine At.thenret ?_
          refine At.blockret ?_
          refine At.thenret ?_
          refine At.thenret ?_
          refine At.blockret ?_
          refine At.thenret ?_
          refine fin1' rfl (by rfl) ?_
          refine RetP.mk hs ?_
          first
            | exact absurd rfl h4
            | (exfalso; omega)
            | (rw [costL_const]; exact congrArg I (by omega))
        ·
          replace h4 := not_eq_false h4
          replace h4 := of_decide_eq_true h4
          refine WC.skipn ?_
          refine WC.seq ?_
          refine WL.p (by rfl) (Yl.move (by rfl)) ?_
          refine WL.p (by rfl) (Yl.add (by rfl) (by rfl) (by omega)) ?_
          refine WL.p (by rfl) (Yl.assign (by rfl)) ?_
          refine WL.next ?_
          refine WC.seq' ?_
          refine WC.seq ?_
          refine WL.p (by rfl) (Yl.move (by rfl)) ?_
          refine WL.p (by rfl) (Yl.move (by rfl)) ?_
          refine WL.p (by rfl) (Yl.indexAddr slt58 (by rfl) (by rfl) (Ph.old h_a hs) (by rfl) (hd)) ?_
          refine WL.p (by rfl) (Yl.fieldAddr fa106_2 (by rfl)) ?_
          refine WL.p (by rfl) (Yl.fieldAddr2 fa32_0 (by rfl)) ?_
          refine WL.p (by rfl) (Yl.loadC sca3 (by rfl) (Sl.Ok.at_ (Ph.old h_a hs) (by assumption)).2 (by rfl)) ?_
          refine WL.p (by rfl) (Yl.move (by rfl)) ?_
          refine WL.p (by rfl) (Yl.nei (by rfl) (by rfl)) ?_
          refine WL.next ?_
          refine WC.condS (by rfl) (fun h5 => ?_) (fun h5 => ?_)
          ·
            replace h5 := not_eq_true h5
            replace h5 := of_decide_eq_false h5
            refine WC.seq ?_
            refine WL.p (by rfl) (Yl.assign (by rfl)) ?_
            refine WL.next ?_
            refine WC.ret ?_
            refine At.thenret ?_
            refine At.blockret ?_
            refine At.thenret ?_
            refine At.thenret ?_
            refine At.blockret ?_
            refine At.thenret ?_
            refine fin1' rfl (by rfl) ?_
            refine RetP.mk hs ?_
            first
              | exact absurd rfl h5
              | (exfalso; omega)
              | (rw [costL_const]; exact congrArg I (by omega))
          ·
            replace h5 := not_eq_false h5
            replace h5 := of_decide_eq_true h5
            refine WC.skipn ?_
            refine WC.seq ?_
            refine WL.p (by rfl) (Yl.move (by rfl)) ?_
            refine WL.p (by rfl) (Yl.add (by rfl) (by rfl) (by omega)) ?_
            refine WL.p (by rfl) (Yl.assign (by rfl)) ?_
            refine WL.next ?_
            refine WC.seq' ?_
            refine WC.seq ?_
            refine WL.p (by rfl) (Yl.move (by rfl)) ?_
            refine WL.p (by rfl) (Yl.move (by rfl)) ?_
            refine WL.p (by rfl) (Yl.indexAddr slt58 (by rfl) (by rfl) (Ph.old h_a hs) (by rfl) (hd)) ?_
            refine WL.p (by rfl) (Yl.fieldAddr fa106_2 (by rfl)) ?_
            refine WL.p (by rfl) (Yl.fieldAddr2 fa32_1 (by rfl)) ?_
            refine WL.p (by rfl) (Yl.loadC sca3 (by rfl) (Sl.Ok.at_ (Ph.old h_a hs) (by assumption)).2 (by rfl)) ?_
            refine WL.p (by rfl) (Yl.move (by rfl)) ?_
            refine WL.p (by rfl) (Yl.nei (by rfl) (by rfl)) ?_
            refine WL.next ?_
            refine WC.condS (by rfl) (fun h6 => ?_) (fun h6 => ?_)
            ·
              replace h6 := not_eq_true h6
              replace h6 := of_decide_eq_false h6
              refine WC.seq ?_
              refine WL.p (by rfl) (Yl.assign (by rfl)) ?_
              refine WL.next ?_
              refine WC.ret ?_
              refine At.thenret ?_
              refine At.blockret ?_
              refine At.thenret ?_
              refine At.thenret ?_
              refine At.blockret ?_
              refine At.thenret ?_
              refine fin1' rfl (by rfl) ?_
              refine RetP.mk hs ?_
              first
                | exact absurd rfl h6
                | (exfalso; omega)
                | (rw [costL_const]; exact congrArg I (by omega))
            ·
              replace h6 := not_eq_false h6
              replace h6 := of_decide_eq_true h6
              refine WC.skipn ?_
              refine WC.seq ?_
              refine WL.p (by rfl) (Yl.move (by rfl)) ?_
              refine WL.p (by rfl) (Yl.add (by rfl) (by rfl) (by omega)) ?_
              refine WL.p (by rfl) (Yl.assign (by rfl)) ?_
              refine WL.next ?_
              refine WC.seq' ?_
              refine WC.quietn mixed (by kernel_rfl) hs ?_
              refine WQ.p (by rfl) (fun w hs => Yl.move (by rfl)) ?_
              refine WQ.p (by rfl) (fun w hs => Yl.move (by rfl)) ?_
              refine WQ.p (by rfl) (fun w hs => Yl.indexAddr slt58 (by rfl) (by rfl) (Ph.old h_a hs) (by rfl) (hd)) ?_
              refine WQ.p (by rfl) (fun w hs => Yl.fieldAddr fa106_2 (by rfl)) ?_
              refine WQ.p (by rfl) (fun w hs => Yl.fieldAddr2 fa32_2 (by rfl)) ?_
              refine WQ.p (by rfl) (fun w hs => Yl.loadC sca9 (by rfl) (Sl.Ok.at_ (Ph.old h_a hs) (by assumption)).2 (by rfl)) ?_
              refine WQ.p (by rfl) (fun w hs => Yl.move (by rfl)) ?_
              refine WQ.callp (by rfl) (fun w => Yc.func (by rfl) fn55) (fun w hs => (c_laws_markText _ _ (by omega))) (fun _ _ hs hb => hs.ext hb) ?_
              refine WQ.p (by rfl) (fun w hs => Yl.nes (by rfl) (by rfl)) ?_
              refine WQ.next ?_
              clear hs; intro w hs
              refine WC.condS (by rfl) (fun h7 => ?_) (fun h7 => ?_)
              ·
                replace h7 := not_eq_true h7
                replace h7 := of_decide_eq_false h7
                refine WC.seq ?_
                refine WL.p (by rfl) (Yl.assign (by rfl)) ?_
                refine WL.next ?_
                refine WC.ret ?_
                refine At.thenret ?_
                refine At.blockret ?_
                refine At.thenret ?_
                refine At.thenret ?_
                refine At.blockret ?_
                refine At.thenret ?_
                refine fin1' rfl (by rfl) ?_
                refine RetP.mk hs ?_
                first
                  | exact absurd rfl h7
                  | (exfalso; omega)
                  | (rw [costL_const]; exact congrArg I (by omega))
              ·
                replace h7 := not_eq_false h7
                replace h7 := of_decide_eq_true h7
                refine WC.skipn ?_
                refine WC.seq ?_
                refine WL.p (by rfl) (Yl.move (by rfl)) ?_
                refine WL.p (by rfl) (Yl.add (by rfl) (by rfl) (by omega)) ?_
                refine WL.p (by rfl) (Yl.assign (by rfl)) ?_
                refine WL.next ?_
                refine WC.seq' ?_
                refine WC.seq ?_
                refine WL.p (by rfl) (Yl.move (by rfl)) ?_
                refine WL.p (by rfl) (Yl.move (by rfl)) ?_
                refine WL.p (by rfl) (Yl.indexAddr slt58 (by rfl) (by rfl) (Ph.old h_a hs) (by rfl) (hd)) ?_
                refine WL.p (by rfl) (Yl.fieldAddr fa106_2 (by rfl)) ?_
                refine WL.p (by rfl) (Yl.fieldAddr2 fa32_3 (by rfl)) ?_
                refine WL.p (by rfl) (Yl.loadC sca3 (by rfl) (Sl.Ok.at_ (Ph.old h_a hs) (by assumption)).2 (by rfl)) ?_
                refine WL.p (by rfl) (Yl.move (by rfl)) ?_
                refine WL.p (by rfl) (Yl.nei (by rfl) (by rfl)) ?_
                refine WL.next ?_
                refine WC.condS (by rfl) (fun h8 => ?_) (fun h8 => ?_)
                ·
                  replace h8 := not_eq_true h8
                  replace h8 := of_decide_eq_false h8
                  refine WC.seq ?_
                  refine WL.p (by rfl) (Yl.assign (by rfl)) ?_
                  refine WL.next ?_
                  refine WC.ret ?_
                  refine At.thenret ?_
                  refine At.blockret ?_
                  refine At.thenret ?_
                  refine At.thenret ?_
                  refine At.blockret ?_
                  refine At.thenret ?_
                  refine fin1' rfl (by rfl) ?_
                  refine RetP.mk hs ?_
                  first
                    | exact absurd rfl h8
                    | (exfalso; omega)
                    | (rw [costL_const]; exact congrArg I (by omega))
                ·
                  replace h8 := not_eq_false h8
                  replace h8 := of_decide_eq_true h8
                  refine WC.skipn ?_
                  refine WC.seq ?_
                  refine WL.p (by rfl) (Yl.move (by rfl)) ?_
                  refine WL.p (by rfl) (Yl.add (by rfl) (by rfl) (by omega)) ?_
                  refine WL.p (by rfl) (Yl.assign (by rfl)) ?_
                  refine WL.next ?_
                  refine WC.seq' ?_
                  refine WC.seq ?_
                  refine WL.p (by rfl) (Yl.move (by rfl)) ?_
                  refine WL.p (by rfl) (Yl.move (by rfl)) ?_
                  refine WL.p (by rfl) (Yl.indexAddr slt58 (by rfl) (by rfl) (Ph.old h_a hs) (by rfl) (hd)) ?_
                  refine WL.p (by rfl) (Yl.fieldAddr fa106_2 (by rfl)) ?_
                  refine WL.p (by rfl) (Yl.fieldAddr2 fa32_4 (by rfl)) ?_
                  refine WL.p (by rfl) (Yl.loadC sca4 (by rfl) (Sl.Ok.at_ (Ph.old h_a hs) (by assumption)).2 (by rfl)) ?_
                  refine WL.p (by rfl) (Yl.move (by rfl)) ?_
                  refine WL.p (by rfl) (Yl.remw (by rfl) (by rfl) (by decide)) ?_
                  refine WL.p (by rfl) (Yl.eqi (by rfl) (by rfl)) ?_
                  refine WL.p (by rfl) (Yl.neb bool4 (by rfl) (by rfl)) ?_
                  refine WL.next ?_
                  refine WC.condS (by rfl) (fun h9 => ?_) (fun h9 => ?_)
                  ·
                    replace h9 := not_eq_true h9
                    replace h9 := beq_false h9
                    refine WC.seq ?_
                    refine WL.p (by rfl) (Yl.assign (by rfl)) ?_
                    refine WL.next ?_
                    refine WC.ret ?_
                    refine At.thenret ?_
                    refine At.blockret ?_
                    refine At.thenret ?_
                    refine At.thenret ?_
                    refine At.blockret ?_
                    refine At.thenret ?_
                    refine fin1' rfl (by rfl) ?_
                    refine RetP.mk hs ?_
                    first
                      | exact absurd rfl h9
                      | (exfalso; omega)
                      | (rw [costL_const]; exact congrArg I (by omega))
                  ·
                    replace h9 := not_eq_false h9
                    replace h9 := beq_true h9
                    refine WC.skipn ?_
                    refine WC.seq ?_
                    refine WL.p (by rfl) (Yl.move (by rfl)) ?_
                    refine WL.p (by rfl) (Yl.add (by rfl) (by rfl) (by omega)) ?_
                    refine WL.p (by rfl) (Yl.assign (by rfl)) ?_
                    refine WL.next ?_
                    refine WC.seq' ?_
                    refine WC.quietn mixed (by kernel_rfl) hs ?_
                    refine WQ.p (by rfl) (fun w hs => Yl.move (by rfl)) ?_
                    refine WQ.p (by rfl) (fun w hs => Yl.move (by rfl)) ?_
                    refine WQ.p (by rfl) (fun w hs => Yl.indexAddr slt58 (by rfl) (by rfl) (Ph.old h_a hs) (by rfl) (hd)) ?_
                    refine WQ.p (by rfl) (fun w hs => Yl.fieldAddr fa106_2 (by rfl)) ?_
                    refine WQ.p (by rfl) (fun w hs => Yl.fieldAddr2 fa32_5 (by rfl)) ?_
                    refine WQ.p (by rfl) (fun w hs => Yl.loadC sca9 (by rfl) (Sl.Ok.at_ (Ph.old h_a hs) (by assumption)).2 (by rfl)) ?_
                    refine WQ.p (by rfl) (fun w hs => Yl.move (by rfl)) ?_
                    refine WQ.callp (by rfl) (fun w => Yc.func (by rfl) fn55) (fun w hs => (c_laws_markText _ _ (by omega))) (fun _ _ hs hb => hs.ext hb) ?_
                    refine WQ.p (by rfl) (fun w hs => Yl.nes (by rfl) (by rfl)) ?_
                    refine WQ.next ?_
                    clear hs; intro w hs
                    refine WC.condS (by rfl) (fun h10 => ?_) (fun h10 => ?_)
                    ·
                      replace h10 := not_eq_true h10
                      replace h10 := of_decide_eq_false h10
                      refine WC.seq ?_
                      refine WL.p (by rfl) (Yl.assign (by rfl)) ?_
                      refine WL.next ?_
                      refine WC.ret ?_
                      refine At.thenret ?_
                      refine At.blockret ?_
                      refine At.thenret ?_
                      refine At.thenret ?_
                      refine At.blockret ?_
                      refine At.thenret ?_
                      refine fin1' rfl (by rfl) ?_
                      refine RetP.mk hs ?_
                      first
                        | exact absurd rfl h10
                        | (exfalso; omega)
                        | (rw [costL_const]; exact congrArg I (by omega))
                    ·
                      replace h10 := not_eq_false h10
                      replace h10 := of_decide_eq_true h10
                      refine WC.skipn ?_
                      refine WC.seq ?_
                      refine WL.p (by rfl) (Yl.move (by rfl)) ?_
                      refine WL.p (by rfl) (Yl.add (by rfl) (by rfl) (by omega)) ?_
                      refine WL.p (by rfl) (Yl.assign (by rfl)) ?_
                      refine WL.next ?_
                      refine WC.seq' ?_
                      refine WC.seq ?_
                      refine WL.p (by rfl) (Yl.move (by rfl)) ?_
                      refine WL.p (by rfl) (Yl.move (by rfl)) ?_
                      refine WL.p (by rfl) (Yl.indexAddr slt58 (by rfl) (by rfl) (Ph.old h_a hs) (by rfl) (hd)) ?_
                      refine WL.p (by rfl) (Yl.fieldAddr fa106_3 (by rfl)) ?_
                      refine WL.p (by rfl) (Yl.loadC sca3 (by rfl) (Sl.Ok.at_ (Ph.old h_a hs) (by assumption)).2 (by rfl)) ?_
                      refine WL.p (by rfl) (Yl.move (by rfl)) ?_
                      refine WL.p (by rfl) (Yl.nei (by rfl) (by rfl)) ?_
                      refine WL.next ?_
                      refine WC.condS (by rfl) (fun h11 => ?_) (fun h11 => ?_)
                      ·
                        replace h11 := not_eq_true h11
                        replace h11 := of_decide_eq_false h11
                        refine WC.seq ?_
                        refine WL.p (by rfl) (Yl.assign (by rfl)) ?_
                        refine WL.next ?_
                        refine WC.ret ?_
                        refine At.thenret ?_
                        refine At.blockret ?_
                        refine At.thenret ?_
                        refine At.thenret ?_
                        refine At.blockret ?_
                        refine At.thenret ?_
                        refine fin1' rfl (by rfl) ?_
                        refine RetP.mk hs ?_
                        first
                          | exact absurd rfl h11
                          | (exfalso; omega)
                          | (rw [costL_const]; exact congrArg I (by omega))
                      ·
                        replace h11 := not_eq_false h11
                        replace h11 := of_decide_eq_true h11
                        refine WC.skipn ?_
                        refine WC.region ?_
                        refine WL.p (by rfl) (Yl.move (by rfl)) ?_
                        refine WL.p (by rfl) (Yl.add (by rfl) (by rfl) (by omega)) ?_
                        refine WL.p (by rfl) (Yl.assign (by rfl)) ?_
                        refine WL.nil ?_
                        refine At.blocknormal ?_
                        refine At.then_ ?_
                        refine WC.region ?_
                        refine WL.p (by rfl) (Yl.move (by rfl)) ?_
                        refine WL.p (by rfl) (Yl.add (by rfl) (by rfl) (by omega)) ?_
                        refine WL.p (by rfl) (Yl.assign (by rfl)) ?_
                        refine WL.nil ?_
                        refine At.roundC (n + 1) (hs.only (by repeat (first | exact Sel.nil | (apply Sel.cons; (repeat (first | exact Ext.here | apply Ext.there)))))) ⟨by rfl, trivial⟩ ⟨by rfl, by exact congrArg (fun z => some (I z)) (by omega), trivial⟩ ?_ ?_
                        ·
                          omega
                        ·
                          omega
  ·
    replace h1 := of_decide_eq_false h1
    refine WC.exit ?_
    refine At.thenexit ?_
    refine At.thenexit ?_
    refine At.blockexit ?_
    refine At.then_ ?_
    refine WC.seq ?_
    refine WL.p (by rfl) (Yl.move (by rfl)) ?_
    refine WL.p (by rfl) (Yl.assign (by rfl)) ?_
    refine WL.next ?_
    refine WC.ret ?_
    refine fin1' rfl (by rfl) ?_
    refine RetP.mk hs ?_
    first
      | exact absurd rfl h1
      | (exfalso; omega)
      | (rw [costL_const]; exact congrArg I (by omega))

theorem c_laws_heldCache (a : PCache) (k : Int) (v : TCache) (w : World) (h_a : Ph.ok w a) (hk0 : 0 ≤ k) (hk : k + ((costoCache v : Nat) : Int) ≤ 100000000) (hm : a.lg = mkoCache k v) : Calls Tryd.prog 45 [.agg #[Sl.v a.entries], I k].toArray w (RetP w (I (k + ((costoCache v : Nat) : Int)))) := by
  have hk2 := hk
  simp only [costoCache, costoCache] at hk2
  refine enterN 12 Tryd.func45 rfl rfl rfl ?_
  have hs := Sat.start w
  refine WC.seq ?_
  refine WL.r (by rfl) (Yr.box hs (by rfl) (by rfl)) ?_
  clear hs; rintro _ w ⟨b1, rfl, hb, hs⟩; clear hb
  refine WL.p (by rfl) (Yl.assign (by rfl)) ?_
  refine WL.next ?_
  refine WC.seq ?_
  refine WL.p (by rfl) (Yl.fieldAddr fa60_0 (by rfl)) ?_
  refine WL.p (by rfl) (Yl.loadB sca58 (by rfl) hs (by repeat (first | exact List.mem_cons_self | apply List.mem_cons_of_mem)) (by rfl)) ?_
  refine WL.p (by rfl) (Yl.move (by rfl)) ?_
  refine WL.callp hs (by rfl) (Yc.func (by rfl) fn83) (c_laws_heldEntryS _ _ v.entries _ (Ph.old h_a.entries hs) (by first | assumption | omega | (simp only [costServer, costNode, costSheet, costToken, costoPolicy, costoCache, costoNet, costoSheet, costoBuilder, costoToken] at *; omega)) (by first | assumption | omega | (simp only [costServer, costNode, costSheet, costToken, costoPolicy, costoCache, costoNet, costoSheet, costoBuilder, costoToken] at *; omega)) (by exact congrArg TCache.entries hm)) ?_
  clear hs; intro w hs
  refine WL.p (by rfl) (Yl.assign (by rfl)) ?_
  refine WL.next ?_
  refine WC.seq' ?_
  refine WC.seq ?_
  refine WL.p (by rfl) (Yl.move (by rfl)) ?_
  refine WL.p (by rfl) (Yl.lss (by rfl) (by rfl)) ?_
  refine WL.next ?_
  refine WC.condS (by rfl) (fun h1 => ?_) (fun h1 => ?_)
  ·
    replace h1 := of_decide_eq_true h1
    refine WC.seq ?_
    refine WL.p (by rfl) (Yl.assign (by rfl)) ?_
    refine WL.next ?_
    refine WC.ret ?_
    refine At.thenret ?_
    refine fin1' rfl (by rfl) ?_
    refine RetP.mk hs ?_
    first
      | (exfalso; omega)
      | rfl
      | exact congrArg I (by simp only [costoCache, costoCache]; omega)
  ·
    replace h1 := of_decide_eq_false h1
    refine WC.skipn ?_
    refine WC.seq ?_
    refine WL.p (by rfl) (Yl.move (by rfl)) ?_
    refine WL.p (by rfl) (Yl.assign (by rfl)) ?_
    refine WL.next ?_
    refine WC.ret ?_
    refine fin1' rfl (by rfl) ?_
    refine RetP.mk hs ?_
    first
      | (exfalso; omega)
      | rfl
      | exact congrArg I (by simp only [costoCache, costoCache]; omega)

theorem c_laws_FnExactStoreEntry (aC : PCache) (aTop : Str) (aA : TAddr) (aX : TResponse) (aNow : Int) (w : World) (h_aC : Ph.ok w aC) (h_aTop : Ph.ok w aTop) (h_aA : Ph.ok w aA) (h_aX : Ph.ok w aX) (h_aNow : Ph.ok w aNow) (hm_ : ∃ m, w.cell? ⟨0, 0, none⟩ = some (.int .i64 m)) : Calls Tryd.prog 9 [.agg #[Sl.v aC.entries], S aTop, .agg #[S aA.host, S aA.path], .agg #[I aX.status, I aX.kind, S aX.body, I aX.age, Bo aX.shares, S aX.policy], I aNow].toArray w (RetP w (Bo true)) := by
  refine enterN 108 Tryd.func9 rfl rfl rfl ?_
  have hs := Sat.start w
  refine WC.seq ?_
  refine WL.r (by rfl) (Yr.box hs (by rfl) (by rfl)) ?_
  clear hs; rintro _ w ⟨b1, rfl, hb, hs⟩; clear hb
  refine WL.r (by rfl) (Yr.box hs (by rfl) (by rfl)) ?_
  clear hs; rintro _ w ⟨b2, rfl, hb, hs⟩; clear hb
  refine WL.r (by rfl) (Yr.box hs (by rfl) (by rfl)) ?_
  clear hs; rintro _ w ⟨b3, rfl, hb, hs⟩; clear hb
  refine WL.p (by rfl) (Yl.assign (by rfl)) ?_
  refine WL.next ?_
  refine WC.seq' ?_
  refine WC.seq ?_
  refine WL.p (by rfl) (Yl.move (by rfl)) ?_
  refine WL.p (by rfl) (Yl.len_str str9 (by rfl)) ?_
  refine WL.p (by rfl) (Yl.gtr (by rfl) (by rfl)) ?_
  refine WL.next ?_
  refine WC.condS (by rfl) (fun h1 => ?_) (fun h1 => ?_)
  ·
    replace h1 := of_decide_eq_true h1
    refine WC.seq ?_
    refine WL.p (by rfl) (Yl.assign (by rfl)) ?_
    refine WL.next ?_
    refine WC.ret ?_
    refine At.thenret ?_
    refine fin1' rfl (by rfl) ?_
    refine RetP.mk hs ?_
    simp_all
  ·
    replace h1 := of_decide_eq_false h1
    refine WC.skipn ?_
    refine WC.seq ?_
    refine WL.p (by rfl) (Yl.assign (by rfl)) ?_
    refine WL.next ?_
    refine WC.seq ?_
    refine WL.p (by rfl) (Yl.loadAB agg55 (by rfl) hs (by repeat (first | exact List.mem_cons_self | apply List.mem_cons_of_mem)) (by rfl) (by rfl)) ?_
    refine WL.p (by rfl) (Yl.move (by rfl)) ?_
    refine WL.callp hs (by rfl) (Yc.func (by rfl) fn30) (c_laws_szCache _ _ _ (Ph.old h_aC hs) (by first | assumption | omega | (simp only [lsz] at *; omega) | (simp only [lsz, strsz, TPolicy.size, TCache.size, TAddr.size, TRequest.size, TEntry.size, TResponse.size, TLine.size] at *; omega) | (simp only [lsz_map, TPage.size, TBuilder.size, TNode.size, TToken.size, TTokenizer.size, TServer.size, TFile.size, TNet.size, TCache.size, TSheet.size, strsz] at *; omega) | (simp only [lsz_map, TPage.size, TBuilder.size, TNode.size, TToken.size, TTokenizer.size, TServer.size, TFile.size, TNet.size, TCache.size, TSheet.size, strsz, lsz] at *; omega)) (by first | assumption | omega | (simp only [lsz] at *; omega) | (simp only [lsz, strsz, TPolicy.size, TCache.size, TAddr.size, TRequest.size, TEntry.size, TResponse.size, TLine.size] at *; omega) | (simp only [lsz_map, TPage.size, TBuilder.size, TNode.size, TToken.size, TTokenizer.size, TServer.size, TFile.size, TNet.size, TCache.size, TSheet.size, strsz] at *; omega) | (simp only [lsz_map, TPage.size, TBuilder.size, TNode.size, TToken.size, TTokenizer.size, TServer.size, TFile.size, TNet.size, TCache.size, TSheet.size, strsz, lsz] at *; omega))) ?_
    clear hs; intro w hs
    refine WL.p (by rfl) (Yl.assign (by rfl)) ?_
    refine WL.next ?_
    refine WC.seq' ?_
    refine WC.seq ?_
    refine WL.p (by rfl) (Yl.move (by rfl)) ?_
    refine WL.p (by rfl) (Yl.lss (by rfl) (by rfl)) ?_
    refine WL.next ?_
    refine WC.condS (by rfl) (fun h2 => ?_) (fun h2 => ?_)
    ·
      replace h2 := lessN_neg (of_decide_eq_true h2)
      refine WC.seq ?_
      refine WL.p (by rfl) (Yl.assign (by rfl)) ?_
      refine WL.next ?_
      refine WC.ret ?_
      refine At.thenret ?_
      refine fin1' rfl (by rfl) ?_
      refine RetP.mk hs ?_
      simp_all
    ·
      replace h2 := lessN_nn (by omega) (of_decide_eq_false h2)
      refine WC.skipn ?_
      refine WC.seq ?_
      refine WL.p (by rfl) (Yl.loadAB agg72 (by rfl) hs (by repeat (first | exact List.mem_cons_self | apply List.mem_cons_of_mem)) (by rfl) (by rfl)) ?_
      refine WL.p (by rfl) (Yl.move (by rfl)) ?_
      refine WL.callp hs (by rfl) (Yc.func (by rfl) fn40) (c_laws_szAddr _ _ _ (Ph.old h_aA hs) (by first | assumption | omega | (simp only [lsz] at *; omega) | (simp only [lsz, strsz, TPolicy.size, TCache.size, TAddr.size, TRequest.size, TEntry.size, TResponse.size, TLine.size] at *; omega) | (simp only [lsz_map, TPage.size, TBuilder.size, TNode.size, TToken.size, TTokenizer.size, TServer.size, TFile.size, TNet.size, TCache.size, TSheet.size, strsz] at *; omega) | (simp only [lsz_map, TPage.size, TBuilder.size, TNode.size, TToken.size, TTokenizer.size, TServer.size, TFile.size, TNet.size, TCache.size, TSheet.size, strsz, lsz] at *; omega)) (by first | assumption | omega | (simp only [lsz] at *; omega) | (simp only [lsz, strsz, TPolicy.size, TCache.size, TAddr.size, TRequest.size, TEntry.size, TResponse.size, TLine.size] at *; omega) | (simp only [lsz_map, TPage.size, TBuilder.size, TNode.size, TToken.size, TTokenizer.size, TServer.size, TFile.size, TNet.size, TCache.size, TSheet.size, strsz] at *; omega) | (simp only [lsz_map, TPage.size, TBuilder.size, TNode.size, TToken.size, TTokenizer.size, TServer.size, TFile.size, TNet.size, TCache.size, TSheet.size, strsz, lsz] at *; omega))) ?_
      clear hs; intro w hs
      refine WL.p (by rfl) (Yl.assign (by rfl)) ?_
      refine WL.next ?_
      refine WC.seq' ?_
      refine WC.seq ?_
      refine WL.p (by rfl) (Yl.move (by rfl)) ?_
      refine WL.p (by rfl) (Yl.lss (by rfl) (by rfl)) ?_
      refine WL.next ?_
      refine WC.condS (by rfl) (fun h3 => ?_) (fun h3 => ?_)
      ·
        replace h3 := lessN_neg (of_decide_eq_true h3)
        refine WC.seq ?_
        refine WL.p (by rfl) (Yl.assign (by rfl)) ?_
        refine WL.next ?_
        refine WC.ret ?_
        refine At.thenret ?_
        refine fin1' rfl (by rfl) ?_
        refine RetP.mk hs ?_
        simp_all
      ·
        replace h3 := lessN_nn (by omega) (of_decide_eq_false h3)
        refine WC.skipn ?_
        refine WC.seq ?_
        refine WL.p (by rfl) (Yl.loadAB agg29 (by rfl) hs (by repeat (first | exact List.mem_cons_self | apply List.mem_cons_of_mem)) (by rfl) (by rfl)) ?_
        refine WL.p (by rfl) (Yl.move (by rfl)) ?_
        refine WL.callp hs (by rfl) (Yc.func (by rfl) fn16) (c_laws_szResponse _ _ _ (Ph.old h_aX hs) (by first | assumption | omega | (simp only [lsz] at *; omega) | (simp only [lsz, strsz, TPolicy.size, TCache.size, TAddr.size, TRequest.size, TEntry.size, TResponse.size, TLine.size] at *; omega) | (simp only [lsz_map, TPage.size, TBuilder.size, TNode.size, TToken.size, TTokenizer.size, TServer.size, TFile.size, TNet.size, TCache.size, TSheet.size, strsz] at *; omega) | (simp only [lsz_map, TPage.size, TBuilder.size, TNode.size, TToken.size, TTokenizer.size, TServer.size, TFile.size, TNet.size, TCache.size, TSheet.size, strsz, lsz] at *; omega)) (by first | assumption | omega | (simp only [lsz] at *; omega) | (simp only [lsz, strsz, TPolicy.size, TCache.size, TAddr.size, TRequest.size, TEntry.size, TResponse.size, TLine.size] at *; omega) | (simp only [lsz_map, TPage.size, TBuilder.size, TNode.size, TToken.size, TTokenizer.size, TServer.size, TFile.size, TNet.size, TCache.size, TSheet.size, strsz] at *; omega) | (simp only [lsz_map, TPage.size, TBuilder.size, TNode.size, TToken.size, TTokenizer.size, TServer.size, TFile.size, TNet.size, TCache.size, TSheet.size, strsz, lsz] at *; omega))) ?_
        clear hs; intro w hs
        refine WL.p (by rfl) (Yl.assign (by rfl)) ?_
        refine WL.next ?_
        refine WC.seq' ?_
        refine WC.seq ?_
        refine WL.p (by rfl) (Yl.move (by rfl)) ?_
        refine WL.p (by rfl) (Yl.lss (by rfl) (by rfl)) ?_
        refine WL.next ?_
        refine WC.condS (by rfl) (fun h4 => ?_) (fun h4 => ?_)
        ·
          replace h4 := lessN_neg (of_decide_eq_true h4)
          refine WC.seq ?_
          refine WL.p (by rfl) (Yl.assign (by rfl)) ?_
          refine WL.next ?_
          refine WC.ret ?_
          refine At.thenret ?_
          refine fin1' rfl (by rfl) ?_
          refine RetP.mk hs ?_
          simp_all
        ·
          replace h4 := lessN_nn (by omega) (of_decide_eq_false h4)
          refine WC.skipn ?_
          refine WC.anyn mixed hs ?_
          clear hs; intro w hs
          refine WA.p (i := 0) (by rfl) (by kernel_rfl) (by kernel_rfl) (by kernel_rfl) (by rfl) (hs.only (by repeat (first | exact Sel.nil | (apply Sel.cons; (repeat (first | exact Ext.here | apply Ext.there)))))) (fun w hs => Yl.loadAB agg55 (by rfl) hs (by repeat (first | exact List.mem_cons_self | apply List.mem_cons_of_mem)) (by rfl) (by rfl)) ?_
          refine WA.p (i := 2) (by rfl) (by kernel_rfl) (by kernel_rfl) (by kernel_rfl) (by rfl) (hs.only (by repeat (first | exact Sel.nil | (apply Sel.cons; (repeat (first | exact Ext.here | apply Ext.there)))))) (fun w hs => Yl.move (by rfl)) ?_
          refine WA.p (i := 3) (by rfl) (by kernel_rfl) (by kernel_rfl) (by kernel_rfl) (by rfl) (hs.only (by repeat (first | exact Sel.nil | (apply Sel.cons; (repeat (first | exact Ext.here | apply Ext.there)))))) (fun w hs => Yl.loadAB agg72 (by rfl) hs (by repeat (first | exact List.mem_cons_self | apply List.mem_cons_of_mem)) (by rfl) (by rfl)) ?_
          refine WA.p (i := 5) (by rfl) (by kernel_rfl) (by kernel_rfl) (by kernel_rfl) (by rfl) (hs.only (by repeat (first | exact Sel.nil | (apply Sel.cons; (repeat (first | exact Ext.here | apply Ext.there)))))) (fun w hs => Yl.loadAB agg29 (by rfl) hs (by repeat (first | exact List.mem_cons_self | apply List.mem_cons_of_mem)) (by rfl) (by rfl)) ?_
          refine WA.p (i := 7) (by rfl) (by kernel_rfl) (by kernel_rfl) (by kernel_rfl) (by rfl) (hs.only (by repeat (first | exact Sel.nil | (apply Sel.cons; (repeat (first | exact Ext.here | apply Ext.there)))))) (fun w hs => Yl.move (by rfl)) ?_
          refine WA.dag' [(⟨1, 38, [], (fun _ v cs => ∃ (x : PCache) (F : List Nat), v = .agg (Ph.enc x).toArray ∧ cs = [ow x F] ∧ x.lg = aC.lg)⟩, []), (⟨4, 41, [], (fun _ v cs => v = .agg (Ph.enc aA).toArray ∧ cs = [])⟩, [(0, false)]), (⟨6, 43, [], (fun _ v cs => v = .agg (Ph.enc aX).toArray ∧ cs = [])⟩, [(1, false)]), (⟨8, 45, [], (fun _ v cs => ∃ (x : PCache) (F : List Nat), v = .agg (Ph.enc x).toArray ∧ cs = [ow x F] ∧ x.lg = storeEntry (aC.lg) aTop aA aX aNow)⟩, [(0, false), (1, false), (2, false)]), (⟨9, 12, [], (fun _ v cs => ∃ b, v = bp b 0 ∧ cs = [box b 60 [.slice none 0 0]])⟩, [])] [false, false, false, false, false] [(0, _), (1, _), (2, _), (3, _), (4, _), (5, _), (7, _), (8, _), (10, _), (11, _), (19, _), (20, _), (21, _), (22, _), (23, _), (24, _), (25, _), (26, _), (27, _), (28, _), (29, _), (30, _), (31, _), (32, _), (33, _), (34, _), (35, _), (36, _), (37, _), (39, _), (40, _), (42, _), (44, _)] ⟨by rfl, by rfl, by rfl, by rfl, by rfl, by rfl, by rfl, by rfl, by rfl, by rfl, by rfl, by rfl, by rfl, by rfl, by rfl, by rfl, by rfl, by rfl, by rfl, by rfl, by rfl, by rfl, by rfl, by rfl, by rfl, by rfl, by rfl, by rfl, by rfl, by rfl, by rfl, by rfl, by rfl, trivial⟩ (by rfl) (by kernel_rfl) (by kernel_rfl) (by kernel_rfl) (by kernel_rfl) (by kernel_rfl) (by kernel_rfl) (by kernel_rfl) (by kernel_rfl) (fun _ hs => hs.only (by repeat (first | exact Sel.nil | (apply Sel.cons; (repeat (first | exact Ext.here | apply Ext.there)))))) hs (fuel := 1) ⟨⟨local_const, ?_⟩, ⟨local_const, ?_⟩, ⟨local_const, ?_⟩, ⟨local_const, ?_⟩, ⟨local_const, ?_⟩, trivial⟩ ?_
          ·
            clear hs
            intro w R hs
            simp only [List.cons_append, List.nil_append] at hs
            refine Gives.c' (by rfl) (Yc.func (by rfl) fn32) (c_laws_toCache _ _ (Ph.old h_aC hs) (by first | assumption | omega | (simp only [lsz] at *; omega) | (simp only [lsz, strsz, TPolicy.size, TCache.size, TAddr.size, TRequest.size, TEntry.size, TResponse.size, TLine.size] at *; omega) | (simp only [lsz_map, TPage.size, TBuilder.size, TNode.size, TToken.size, TTokenizer.size, TServer.size, TFile.size, TNet.size, TCache.size, TSheet.size, strsz] at *; omega) | (simp only [lsz_map, TPage.size, TBuilder.size, TNode.size, TToken.size, TTokenizer.size, TServer.size, TFile.size, TNet.size, TCache.size, TSheet.size, strsz, lsz] at *; omega))) ?_
            rintro _ w1 ⟨_, rfl, hb, x, rfl, hx, hf⟩
            obtain ⟨F, hs1⟩ := hf.sat hs hb
            exact ⟨_, rfl, [ow x F], ⟨x, F, rfl, rfl, by exact hx⟩, hs1⟩
          ·
            clear hs
            rintro _ _ ⟨x4, F4, rfl, rfl, hx4⟩
            intro w R hs
            simp only [List.cons_append, List.nil_append] at hs
            refine Gives.c' (by rfl) (Yc.func (by rfl) fn42) (c_laws_toAddr _ _) ?_
            rintro _ w1 ⟨rfl, hb⟩
            exact ⟨_, rfl, [], ⟨(by first | rfl | (simp only [hx4])), rfl⟩, hs.ext hb⟩
          ·
            clear hs
            rintro _ _ ⟨rfl, rfl⟩
            intro w R hs
            simp only [List.cons_append, List.nil_append] at hs
            refine Gives.c' (by rfl) (Yc.func (by rfl) fn18) (c_laws_toResponse _ _) ?_
            rintro _ w1 ⟨rfl, hb⟩
            exact ⟨_, rfl, [], ⟨rfl, rfl⟩, hs.ext hb⟩
          ·
            clear hs
            rintro _ _ ⟨x4, F4, rfl, rfl, hx4⟩
            rintro _ _ ⟨rfl, rfl⟩
            rintro _ _ ⟨rfl, rfl⟩
            intro w R hs
            simp only [List.cons_append, List.nil_append] at hs
            refine Gives.c' (by rfl) (Yc.func (by rfl) fn41) (c_spec_StoreEntry _ _ _ _ _ _ (hs.okow (x := x4) (F := F4) (by repeat (first | exact List.mem_cons_self | apply List.mem_cons_of_mem))) (Ph.old h_aTop hs) (Ph.old h_aA hs) (Ph.old h_aX hs) (Ph.old h_aNow hs) (by first | (rw [hx1]; omega) | (rw [hx2]; omega) | (rw [hx3]; omega) | (rw [hx4]; omega) | (rw [hx5]; omega) | (rw [hx6]; omega) | (rw [hx7]; omega) | (rw [hx8]; omega) | (rw [hx9]; omega) | (rw [hx10]; omega) | (rw [hx11]; omega) | (rw [hx12]; omega) | (rw [hx13]; omega) | (rw [hx14]; omega) | (rw [hx15]; omega) | (rw [hx16]; omega) | (rw [hx17]; omega) | (rw [hx18]; omega) | (rw [hx19]; omega) | (rw [hx20]; omega) | (rw [hx21]; omega) | (rw [hx22]; omega) | (rw [hx23]; omega) | (rw [hx24]; omega) | (rw [hx25]; omega) | (rw [hx26]; omega) | (rw [hx27]; omega) | (rw [hx28]; omega) | (rw [hx29]; omega) | (rw [hx30]; omega) | (rw [hx31]; omega) | (rw [hx32]; omega) | (rw [hx33]; omega) | (rw [hx34]; omega) | (rw [hx35]; omega) | (rw [hx36]; omega) | (rw [hx37]; omega) | (rw [hx38]; omega) | (rw [hx39]; omega) | (rw [hx40]; omega) | (rw [hx41]; omega) | (rw [hx42]; omega) | (rw [hx43]; omega) | (rw [hx44]; omega) | (rw [hx45]; omega) | (rw [hx46]; omega) | (rw [hx47]; omega) | (rw [hx48]; omega) | (rw [hx49]; omega) | (rw [hx50]; omega) | (rw [hx51]; omega) | (rw [hx52]; omega) | (rw [hx53]; omega) | (rw [hx54]; omega) | (rw [hx55]; omega) | (rw [hx56]; omega) | (rw [hx57]; omega) | (rw [hx58]; omega) | (rw [hx59]; omega) | (simp only [PPolicy.lg] at *; omega)) (by first | omega | (have h9 := h3; simp only [TResponse.size] at *; omega) | (simp only [TResponse.size] at *; omega))) ?_
            rintro _ w1 ⟨_, rfl, hb, x, rfl, hx, hf⟩
            obtain ⟨F, hs1⟩ := hf.sat hs hb
            exact ⟨_, rfl, [ow x F], ⟨x, F, rfl, rfl, by first | exact hx | (simp only [hx4] at hx; exact hx)⟩, hs1⟩
          ·
            clear hs
            intro w R hs
            simp only [List.cons_append, List.nil_append] at hs
            exact Gives.rr' (by rfl) (Yr.alloc hs zt60) (fun _ _ ⟨b, hv, _, hs1⟩ => ⟨[box b 60 [.slice none 0 0]], ⟨b, hv, rfl⟩, hs1⟩)
          clear hs
          rintro _ _ ⟨x4, F4, rfl, rfl, hx4⟩
          rintro _ _ ⟨rfl, rfl⟩
          rintro _ _ ⟨rfl, rfl⟩
          rintro _ _ ⟨x7, F7, rfl, rfl, hx7⟩
          rintro _ _ ⟨b8, rfl, rfl⟩
          intro w hs
          simp only [List.cons_append, List.nil_append, cond_true, cond_false] at hs
          refine WA.s (i := 10) (by kernel_rfl) (by rfl) (Yr.storeB hs (by rfl) (by rfl) (by rfl) (by repeat (first | exact Repl.here | apply Repl.there)) (by repeat (first | (apply SetAt.here; repeat (first | exact Over.nil | apply Over.cons)) | apply SetAt.there)) (by rfl) (by exact szf60)) (by rintro _ w hs; exact hs.only (by repeat (first | exact Sel.nil | (apply Sel.cons; (repeat (first | exact Ext.here | apply Ext.there)))))) ?_
          clear hs; rintro _ w hs
          refine WA.donen (by kernel_rfl) ?_
          refine WC.seq ?_
          refine WL.p (by rfl) (Yl.loadAB agg55 (by rfl) hs (by repeat (first | exact List.mem_cons_self | apply List.mem_cons_of_mem)) (by rfl) (by rfl)) ?_
          refine WL.call hs (by rfl) (Yc.func (by rfl) fn32) (c_laws_toCache _ _ (Ph.old h_aC hs) (by first | assumption | omega | (simp only [lsz] at *; omega) | (simp only [lsz, strsz, TPolicy.size, TCache.size, TAddr.size, TRequest.size, TEntry.size, TResponse.size, TLine.size] at *; omega) | (simp only [lsz_map, TPage.size, TBuilder.size, TNode.size, TToken.size, TTokenizer.size, TServer.size, TFile.size, TNet.size, TCache.size, TSheet.size, strsz] at *; omega) | (simp only [lsz_map, TPage.size, TBuilder.size, TNode.size, TToken.size, TTokenizer.size, TServer.size, TFile.size, TNet.size, TCache.size, TSheet.size, strsz, lsz] at *; omega))) ?_
          have hs0 := hs; clear hs; intro v w hb hR hs; clear hs
          obtain ⟨x9, rfl, hx9, hf9⟩ := hR
          obtain ⟨F9, hs⟩ := hf9.sat hs0 hb; clear hs0 hf9
          refine WL.r (by rfl) (Yr.alloc hs zt60) ?_
          clear hs; rintro _ w ⟨b10, rfl, hb, hs⟩; clear hb
          refine WL.s (Yr.storeB hs (by rfl) (by rfl) (by rfl) (by repeat (first | exact Repl.here | apply Repl.there)) (by repeat (first | (apply SetAt.here; repeat (first | exact Over.nil | apply Over.cons)) | apply SetAt.there)) (by rfl) (by exact szf60)) ?_
          clear hs; rintro _ w hs
          refine WL.next ?_
          refine WC.anyn mixed hs ?_
          clear hs; intro w hs
          refine WA.p (i := 0) (by rfl) (by kernel_rfl) (by kernel_rfl) (by kernel_rfl) (by rfl) (hs.only (by repeat (first | exact Sel.nil | (apply Sel.cons; (repeat (first | exact Ext.here | apply Ext.there)))))) (fun w hs => Yl.loadAB agg60 (by rfl) hs (by repeat (first | exact List.mem_cons_self | apply List.mem_cons_of_mem)) (by rfl) (by rfl)) ?_
          refine WA.p (i := 1) (by rfl) (by kernel_rfl) (by kernel_rfl) (by kernel_rfl) (by rfl) (hs.only (by repeat (first | exact Sel.nil | (apply Sel.cons; (repeat (first | exact Ext.here | apply Ext.there)))))) (fun w hs => Yl.move (by rfl)) ?_
          refine WA.p (i := 2) (by rfl) (by kernel_rfl) (by kernel_rfl) (by kernel_rfl) (by rfl) (hs.only (by repeat (first | exact Sel.nil | (apply Sel.cons; (repeat (first | exact Ext.here | apply Ext.there)))))) (fun w hs => Yl.loadAB agg72 (by rfl) hs (by repeat (first | exact List.mem_cons_self | apply List.mem_cons_of_mem)) (by rfl) (by rfl)) ?_
          refine WA.p (i := 4) (by rfl) (by kernel_rfl) (by kernel_rfl) (by kernel_rfl) (by rfl) (hs.only (by repeat (first | exact Sel.nil | (apply Sel.cons; (repeat (first | exact Ext.here | apply Ext.there)))))) (fun w hs => Yl.loadAB agg29 (by rfl) hs (by repeat (first | exact List.mem_cons_self | apply List.mem_cons_of_mem)) (by rfl) (by rfl)) ?_
          refine WA.p (i := 6) (by rfl) (by kernel_rfl) (by kernel_rfl) (by kernel_rfl) (by rfl) (hs.only (by repeat (first | exact Sel.nil | (apply Sel.cons; (repeat (first | exact Ext.here | apply Ext.there)))))) (fun w hs => Yl.move (by rfl)) ?_
          refine WA.dag' [(⟨3, 51, [], (fun _ v cs => v = .agg (Ph.enc aA).toArray ∧ cs = [])⟩, []), (⟨5, 53, [], (fun _ v cs => v = .agg (Ph.enc aX).toArray ∧ cs = [])⟩, [(0, false)]), (⟨7, 55, [], (fun _ v cs => ∃ (x : PCache) (F : List Nat), v = .agg (Ph.enc x).toArray ∧ cs = [ow x F] ∧ x.lg = storeEntry x9.lg aTop aA aX aNow)⟩, [(0, false), (1, false)]), (⟨8, 14, [], (fun _ v cs => ∃ b, v = bp b 0 ∧ cs = [box b 60 [.slice none 0 0]])⟩, [])] [false, false, false, false] [(0, _), (1, _), (2, _), (3, _), (4, _), (5, _), (7, _), (8, _), (10, _), (11, _), (12, _), (13, _), (19, _), (20, _), (21, _), (22, _), (23, _), (24, _), (25, _), (26, _), (27, _), (28, _), (29, _), (30, _), (31, _), (32, _), (33, _), (34, _), (35, _), (36, _), (37, _), (38, _), (39, _), (40, _), (41, _), (42, _), (43, _), (44, _), (45, _), (46, _), (47, _), (48, _), (49, _), (50, _), (52, _), (54, _)] ⟨by rfl, by rfl, by rfl, by rfl, by rfl, by rfl, by rfl, by rfl, by rfl, by rfl, by rfl, by rfl, by rfl, by rfl, by rfl, by rfl, by rfl, by rfl, by rfl, by rfl, by rfl, by rfl, by rfl, by rfl, by rfl, by rfl, by rfl, by rfl, by rfl, by rfl, by rfl, by rfl, by rfl, by rfl, by rfl, by rfl, by rfl, by rfl, by rfl, by rfl, by rfl, by rfl, by rfl, by rfl, by rfl, by rfl, trivial⟩ (by rfl) (by kernel_rfl) (by kernel_rfl) (by kernel_rfl) (by kernel_rfl) (by kernel_rfl) (by kernel_rfl) (by kernel_rfl) (by kernel_rfl) (fun _ hs => hs.only (by repeat (first | exact Sel.nil | (apply Sel.cons; (repeat (first | exact Ext.here | apply Ext.there)))))) hs (fuel := 1) ⟨⟨local_const, ?_⟩, ⟨local_const, ?_⟩, ⟨local_const, ?_⟩, ⟨local_const, ?_⟩, trivial⟩ ?_
          ·
            clear hs
            intro w R hs
            simp only [List.cons_append, List.nil_append] at hs
            refine Gives.c' (by rfl) (Yc.func (by rfl) fn42) (c_laws_toAddr _ _) ?_
            rintro _ w1 ⟨rfl, hb⟩
            exact ⟨_, rfl, [], ⟨(by first | rfl | (simp only [hx4, hx7, hx9])), rfl⟩, hs.ext hb⟩
          ·
            clear hs
            rintro _ _ ⟨rfl, rfl⟩
            intro w R hs
            simp only [List.cons_append, List.nil_append] at hs
            refine Gives.c' (by rfl) (Yc.func (by rfl) fn18) (c_laws_toResponse _ _) ?_
            rintro _ w1 ⟨rfl, hb⟩
            exact ⟨_, rfl, [], ⟨(by first | rfl | (simp only [hx4, hx7, hx9])), rfl⟩, hs.ext hb⟩
          ·
            clear hs
            rintro _ _ ⟨rfl, rfl⟩
            rintro _ _ ⟨rfl, rfl⟩
            intro w R hs
            simp only [List.cons_append, List.nil_append] at hs
            refine Gives.c' (by rfl) (Yc.func (by rfl) fn43) (c_impl_StoreEntry _ _ _ _ _ _ (hs.okow (x := x9) (F := F9) (by repeat (first | exact List.mem_cons_self | apply List.mem_cons_of_mem))) (Ph.old h_aTop hs) (Ph.old h_aA hs) (Ph.old h_aX hs) (Ph.old h_aNow hs) (by first | (rw [hx1]; omega) | (rw [hx2]; omega) | (rw [hx3]; omega) | (rw [hx4]; omega) | (rw [hx5]; omega) | (rw [hx6]; omega) | (rw [hx7]; omega) | (rw [hx8]; omega) | (rw [hx9]; omega) | (rw [hx10]; omega) | (rw [hx11]; omega) | (rw [hx12]; omega) | (rw [hx13]; omega) | (rw [hx14]; omega) | (rw [hx15]; omega) | (rw [hx16]; omega) | (rw [hx17]; omega) | (rw [hx18]; omega) | (rw [hx19]; omega) | (rw [hx20]; omega) | (rw [hx21]; omega) | (rw [hx22]; omega) | (rw [hx23]; omega) | (rw [hx24]; omega) | (rw [hx25]; omega) | (rw [hx26]; omega) | (rw [hx27]; omega) | (rw [hx28]; omega) | (rw [hx29]; omega) | (rw [hx30]; omega) | (rw [hx31]; omega) | (rw [hx32]; omega) | (rw [hx33]; omega) | (rw [hx34]; omega) | (rw [hx35]; omega) | (rw [hx36]; omega) | (rw [hx37]; omega) | (rw [hx38]; omega) | (rw [hx39]; omega) | (rw [hx40]; omega) | (rw [hx41]; omega) | (rw [hx42]; omega) | (rw [hx43]; omega) | (rw [hx44]; omega) | (rw [hx45]; omega) | (rw [hx46]; omega) | (rw [hx47]; omega) | (rw [hx48]; omega) | (rw [hx49]; omega) | (rw [hx50]; omega) | (rw [hx51]; omega) | (rw [hx52]; omega) | (rw [hx53]; omega) | (rw [hx54]; omega) | (rw [hx55]; omega) | (rw [hx56]; omega) | (rw [hx57]; omega) | (rw [hx58]; omega) | (rw [hx59]; omega) | (simp only [PPolicy.lg] at *; omega)) (by first | omega | (have h9 := h3; simp only [TResponse.size] at *; omega) | (simp only [TResponse.size] at *; omega)) (by first | assumption | exact Sat.cellm hs (by assumption))) ?_
            rintro _ w1 ⟨_, rfl, hb, x, rfl, hx, hf⟩
            obtain ⟨F, hs1⟩ := hf.sat hs hb
            exact ⟨_, rfl, [ow x F], ⟨x, F, rfl, rfl, by first | exact hx | (simp only [hx4, hx7, hx9] at hx; exact hx)⟩, hs1⟩
          ·
            clear hs
            intro w R hs
            simp only [List.cons_append, List.nil_append] at hs
            exact Gives.rr' (by rfl) (Yr.alloc hs zt60) (fun _ _ ⟨b, hv, _, hs1⟩ => ⟨[box b 60 [.slice none 0 0]], ⟨b, hv, rfl⟩, hs1⟩)
          clear hs
          rintro _ _ ⟨rfl, rfl⟩
          rintro _ _ ⟨rfl, rfl⟩
          rintro _ _ ⟨x13, F13, rfl, rfl, hx13⟩
          rintro _ _ ⟨b14, rfl, rfl⟩
          intro w hs
          simp only [List.cons_append, List.nil_append, cond_true, cond_false] at hs
          refine WA.s (i := 9) (by kernel_rfl) (by rfl) (Yr.storeB hs (by rfl) (by rfl) (by rfl) (by repeat (first | exact Repl.here | apply Repl.there)) (by repeat (first | (apply SetAt.here; repeat (first | exact Over.nil | apply Over.cons)) | apply SetAt.there)) (by rfl) (by exact szf60)) (by rintro _ w hs; exact hs.only (by repeat (first | exact Sel.nil | (apply Sel.cons; (repeat (first | exact Ext.here | apply Ext.there)))))) ?_
          clear hs; rintro _ w hs
          refine WA.donen (by kernel_rfl) ?_
          refine WC.seq' ?_
          refine WC.seq ?_
          refine WL.p (by rfl) (Yl.loadAB agg60 (by rfl) hs (by repeat (first | exact List.mem_cons_self | apply List.mem_cons_of_mem)) (by rfl) (by rfl)) ?_
          refine WL.p (by rfl) (Yl.loadAB agg60 (by rfl) hs (by repeat (first | exact List.mem_cons_self | apply List.mem_cons_of_mem)) (by rfl) (by rfl)) ?_
          refine WL.callp hs (by rfl) (Yc.func (by rfl) fn34) (c_laws_eqCache _ _ _ (hs.okow (x := x13) (F := F13) (by repeat (first | exact List.mem_cons_self | apply List.mem_cons_of_mem))) (hs.okow (x := x7) (F := F7) (by repeat (first | exact List.mem_cons_self | apply List.mem_cons_of_mem)))) ?_
          clear hs; intro w hs
          refine WL.p (by rfl) (Yl.not (by rfl)) ?_
          refine WL.next ?_
          refine WC.condS (by rfl) (fun h5 => ?_) (fun h5 => ?_)
          ·
            replace h5 := not_eq_true h5
            replace h5 := of_decide_eq_false h5
            refine WC.seq ?_
            refine WL.p (by rfl) (Yl.assign (by rfl)) ?_
            refine WL.next ?_
            refine WC.ret ?_
            refine At.thenret ?_
            refine fin1' rfl (by rfl) ?_
            refine RetP.mk hs ?_
            try simp only [hx4, hx7, hx9, hx13] at h1
            try simp only [hx4, hx7, hx9, hx13] at h2
            try simp only [hx4, hx7, hx9, hx13] at h3
            try simp only [hx4, hx7, hx9, hx13] at h4
            try simp only [hx4, hx7, hx9, hx13] at h5
            all_goals (first | (simp only [hx4, hx7, hx9, hx13]; done) | (exfalso; omega) | simp_all)
          ·
            replace h5 := not_eq_false h5
            replace h5 := of_decide_eq_true h5
            refine WC.skipn ?_
            refine WC.seq' ?_
            refine WC.anyn mixed hs ?_
            clear hs; intro w hs
            refine WA.p (i := 0) (by rfl) (by kernel_rfl) (by kernel_rfl) (by kernel_rfl) (by rfl) (hs.only (by repeat (first | exact Sel.nil | (apply Sel.cons; (repeat (first | exact Ext.here | apply Ext.there)))))) (fun w hs => Yl.loadAB agg60 (by rfl) hs (by repeat (first | exact List.mem_cons_self | apply List.mem_cons_of_mem)) (by rfl) (by rfl)) ?_
            refine WA.p (i := 1) (by rfl) (by kernel_rfl) (by kernel_rfl) (by kernel_rfl) (by rfl) (hs.only (by repeat (first | exact Sel.nil | (apply Sel.cons; (repeat (first | exact Ext.here | apply Ext.there)))))) (fun w hs => Yl.loadAB agg55 (by rfl) hs (by repeat (first | exact List.mem_cons_self | apply List.mem_cons_of_mem)) (by rfl) (by rfl)) ?_
            refine WA.call2 (i := 2) hs (fun _ hs => hs.only (by repeat (first | exact Sel.nil | (apply Sel.cons; (repeat (first | exact Ext.here | apply Ext.there)))))) (by kernel_rfl) (by rfl) (by rfl) (Yc.func (by rfl) fn32) (c_laws_toCache _ _ (Ph.old h_aC hs) (by first | assumption | omega | (simp only [lsz] at *; omega) | (simp only [lsz, strsz, TPolicy.size, TCache.size, TAddr.size, TRequest.size, TEntry.size, TResponse.size, TLine.size] at *; omega) | (simp only [lsz_map, TPage.size, TBuilder.size, TNode.size, TToken.size, TTokenizer.size, TServer.size, TFile.size, TNet.size, TCache.size, TSheet.size, strsz] at *; omega) | (simp only [lsz_map, TPage.size, TBuilder.size, TNode.size, TToken.size, TTokenizer.size, TServer.size, TFile.size, TNet.size, TCache.size, TSheet.size, strsz, lsz] at *; omega))) ?_
            have hs0 := hs; clear hs; intro v w hb hR hs; clear hs
            obtain ⟨x15, rfl, hx15, hf15⟩ := hR
            obtain ⟨F15, hs⟩ := hf15.sat hs0 hb; clear hs0 hf15
            refine WA.callp2 (i := 3) hs (fun _ hs => hs.only (by repeat (first | exact Sel.nil | (apply Sel.cons; (repeat (first | exact Ext.here | apply Ext.there)))))) (by kernel_rfl) (by rfl) (by rfl) (Yc.func (by rfl) fn34) (c_laws_eqCache _ _ _ (hs.okow (x := x9) (F := F9) (by repeat (first | exact List.mem_cons_self | apply List.mem_cons_of_mem))) (hs.okow (x := x15) (F := F15) (by repeat (first | exact List.mem_cons_self | apply List.mem_cons_of_mem)))) ?_
            clear hs; intro w hs
            refine WA.p (i := 4) (by rfl) (by kernel_rfl) (by kernel_rfl) (by kernel_rfl) (by rfl) (hs.only (by repeat (first | exact Sel.nil | (apply Sel.cons; (repeat (first | exact Ext.here | apply Ext.there)))))) (fun w hs => Yl.not (by rfl)) ?_
            refine WA.donen (by kernel_rfl) ?_
            refine WC.condS (by rfl) (fun h6 => ?_) (fun h6 => ?_)
            ·
              replace h6 := not_eq_true h6
              replace h6 := of_decide_eq_false h6
              refine WC.seq ?_
              refine WL.p (by rfl) (Yl.assign (by rfl)) ?_
              refine WL.next ?_
              refine WC.ret ?_
              refine At.thenret ?_
              refine fin1' rfl (by rfl) ?_
              refine RetP.mk hs ?_
              try simp only [hx4, hx7, hx9, hx13, hx15] at h1
              try simp only [hx4, hx7, hx9, hx13, hx15] at h2
              try simp only [hx4, hx7, hx9, hx13, hx15] at h3
              try simp only [hx4, hx7, hx9, hx13, hx15] at h4
              try simp only [hx4, hx7, hx9, hx13, hx15] at h5
              try simp only [hx4, hx7, hx9, hx13, hx15] at h6
              all_goals (first | (simp only [hx4, hx7, hx9, hx13, hx15]; done) | (exfalso; omega) | simp_all)
            ·
              replace h6 := not_eq_false h6
              replace h6 := of_decide_eq_true h6
              refine WC.skipn ?_
              refine WC.seq ?_
              refine WL.p (by rfl) (Yl.assign (by rfl)) ?_
              refine WL.next ?_
              refine WC.seq ?_
              refine WL.p (by rfl) (Yl.loadAB agg60 (by rfl) hs (by repeat (first | exact List.mem_cons_self | apply List.mem_cons_of_mem)) (by rfl) (by rfl)) ?_
              refine WL.p (by rfl) (Yl.move (by rfl)) ?_
              refine WL.callm (a := x9) (F := F9) hs (by repeat (first | exact Sel.nil | (apply Sel.cons; (repeat (first | exact Ext.here | apply Ext.there))))) (by rfl) (Yc.func (by rfl) fn44) (c_laws_markCache x9 _ _ F9 (own_of hs (by repeat (first | exact List.mem_cons_self | apply List.mem_cons_of_mem))) (nodup_of hs (by repeat (first | exact List.mem_cons_self | apply List.mem_cons_of_mem))) (by first | assumption | omega | (simp only [lsz] at *; omega) | (simp only [lsz, strsz, TPolicy.size, TCache.size, TAddr.size, TRequest.size, TEntry.size, TResponse.size, TLine.size] at *; omega) | (simp only [lsz_map, TPage.size, TBuilder.size, TNode.size, TToken.size, TTokenizer.size, TServer.size, TFile.size, TNet.size, TCache.size, TSheet.size, strsz] at *; omega) | (simp only [lsz_map, TPage.size, TBuilder.size, TNode.size, TToken.size, TTokenizer.size, TServer.size, TFile.size, TNet.size, TCache.size, TSheet.size, strsz, lsz] at *; omega)) (by first | omega | (try simp only [hx4, hx7, hx9, hx13, hx15]); (have := costoCache_le aC.lg; have := costStore_le aC.lg aTop aA aX aNow; omega))) ?_
              clear hs; intro a16 F16 w he16 hq16 hs
              refine WL.p (by rfl) (Yl.assign (by rfl)) ?_
              refine WL.next ?_
              refine WC.seq' ?_
              refine WC.seq ?_
              refine WL.p (by rfl) (Yl.move (by rfl)) ?_
              refine WL.p (by rfl) (Yl.lss (by rfl) (by rfl)) ?_
              refine WL.p (by rfl) (Yl.move (by rfl)) ?_
              refine WL.split (d := 70) (by rfl) (fun h7 => ?_) (fun h7 => ?_)
              ·
                replace h7 := of_decide_eq_true h7
                refine WL.skip (d := 70) (by rfl) (by rfl) (by rfl) (by rfl) ?_
                refine WL.skip (d := 70) (by rfl) (by rfl) (by rfl) (by rfl) ?_
                refine WL.skip (d := 70) (by rfl) (by rfl) (by rfl) (by rfl) ?_
                refine WL.skip (d := 70) (by rfl) (by rfl) (by rfl) (by rfl) ?_
                refine WL.p (by rfl) (Yl.pickT (by rfl) (by rfl)) ?_
                refine WL.next ?_
                refine WC.condT (by rfl) ?_
                refine WC.seq ?_
                refine WL.p (by rfl) (Yl.assign (by rfl)) ?_
                refine WL.next ?_
                refine WC.ret ?_
                refine At.thenret ?_
                refine fin1' rfl (by rfl) ?_
                refine RetP.mk hs ?_
                try simp only [hx4, hx7, hx9, hx13, hx15, hq16] at h1
                try simp only [hx4, hx7, hx9, hx13, hx15, hq16] at h2
                try simp only [hx4, hx7, hx9, hx13, hx15, hq16] at h3
                try simp only [hx4, hx7, hx9, hx13, hx15, hq16] at h4
                try simp only [hx4, hx7, hx9, hx13, hx15, hq16] at h5
                try simp only [hx4, hx7, hx9, hx13, hx15, hq16] at h6
                try simp only [hx4, hx7, hx9, hx13, hx15, hq16] at h7
                all_goals (first | (simp only [hx4, hx7, hx9, hx13, hx15, hq16]; done) | (exfalso; omega) | simp_all)
              ·
                replace h7 := of_decide_eq_false h7
                refine WL.run (d := 70) (by rfl) (by rfl) ?_
                refine WL.p (by rfl) (Yl.loadAB agg60 (by rfl) hs (by repeat (first | exact List.mem_cons_self | apply List.mem_cons_of_mem)) (by rfl) (by rfl)) ?_
                refine WL.run (d := 70) (by rfl) (by rfl) ?_
                refine WL.p (by rfl) (Yl.loadAB agg60 (by rfl) hs (by repeat (first | exact List.mem_cons_self | apply List.mem_cons_of_mem)) (by rfl) (by rfl)) ?_
                refine WL.run (d := 70) (by rfl) (by rfl) ?_
                refine WL.callp hs (by rfl) (Yc.func (by rfl) fn34) (c_laws_eqCache _ _ _ (hs.okow (x := x13) (F := F13) (by repeat (first | exact List.mem_cons_self | apply List.mem_cons_of_mem))) (hs.okow (x := x7) (F := F7) (by repeat (first | exact List.mem_cons_self | apply List.mem_cons_of_mem)))) ?_
                clear hs; intro w hs
                refine WL.run (d := 70) (by rfl) (by rfl) ?_
                refine WL.p (by rfl) (Yl.not (by rfl)) ?_
                refine WL.p (by rfl) (Yl.pickF (by rfl) (by rfl)) ?_
                refine WL.next ?_
                refine WC.condS (by rfl) (fun h8 => ?_) (fun h8 => ?_)
                ·
                  replace h8 := not_eq_true h8
                  replace h8 := of_decide_eq_false h8
                  refine WC.seq ?_
                  refine WL.p (by rfl) (Yl.assign (by rfl)) ?_
                  refine WL.next ?_
                  refine WC.ret ?_
                  refine At.thenret ?_
                  refine fin1' rfl (by rfl) ?_
                  refine RetP.mk hs ?_
                  try simp only [hx4, hx7, hx9, hx13, hx15, hq16] at h1
                  try simp only [hx4, hx7, hx9, hx13, hx15, hq16] at h2
                  try simp only [hx4, hx7, hx9, hx13, hx15, hq16] at h3
                  try simp only [hx4, hx7, hx9, hx13, hx15, hq16] at h4
                  try simp only [hx4, hx7, hx9, hx13, hx15, hq16] at h5
                  try simp only [hx4, hx7, hx9, hx13, hx15, hq16] at h6
                  try simp only [hx4, hx7, hx9, hx13, hx15, hq16] at h7
                  try simp only [hx4, hx7, hx9, hx13, hx15, hq16] at h8
                  all_goals (first | (simp only [hx4, hx7, hx9, hx13, hx15, hq16]; done) | (exfalso; omega) | simp_all)
                ·
                  replace h8 := not_eq_false h8
                  replace h8 := of_decide_eq_true h8
                  refine WC.skipn ?_
                  refine WC.seq ?_
                  refine WL.p (by rfl) (Yl.assign (by rfl)) ?_
                  refine WL.next ?_
                  refine WC.seq ?_
                  refine WL.p (by rfl) (Yl.loadAB agg60 (by rfl) hs (by repeat (first | exact List.mem_cons_self | apply List.mem_cons_of_mem)) (by rfl) (by rfl)) ?_
                  refine WL.p (by rfl) (Yl.move (by rfl)) ?_
                  refine WL.callm (a := x13) (F := F13) hs (by repeat (first | exact Sel.nil | (apply Sel.cons; (repeat (first | exact Ext.here | apply Ext.there))))) (by rfl) (Yc.func (by rfl) fn44) (c_laws_markCache x13 _ _ F13 (own_of hs (by repeat (first | exact List.mem_cons_self | apply List.mem_cons_of_mem))) (nodup_of hs (by repeat (first | exact List.mem_cons_self | apply List.mem_cons_of_mem))) (by first | assumption | omega | (simp only [lsz] at *; omega) | (simp only [lsz, strsz, TPolicy.size, TCache.size, TAddr.size, TRequest.size, TEntry.size, TResponse.size, TLine.size] at *; omega) | (simp only [lsz_map, TPage.size, TBuilder.size, TNode.size, TToken.size, TTokenizer.size, TServer.size, TFile.size, TNet.size, TCache.size, TSheet.size, strsz] at *; omega) | (simp only [lsz_map, TPage.size, TBuilder.size, TNode.size, TToken.size, TTokenizer.size, TServer.size, TFile.size, TNet.size, TCache.size, TSheet.size, strsz, lsz] at *; omega)) (by first | omega | (try simp only [hx4, hx7, hx9, hx13, hx15]); (have := costoCache_le aC.lg; have := costStore_le aC.lg aTop aA aX aNow; omega))) ?_
                  clear hs; intro a17 F17 w he17 hq17 hs
                  refine WL.p (by rfl) (Yl.assign (by rfl)) ?_
                  refine WL.next ?_
                  refine WC.seq ?_
                  refine WL.p (by rfl) (Yl.assign (by rfl)) ?_
                  refine WL.next ?_
                  refine WC.seq ?_
                  refine WL.p (by rfl) (Yl.loadAB agg60 (by rfl) hs (by repeat (first | exact List.mem_cons_self | apply List.mem_cons_of_mem)) (by rfl) (by rfl)) ?_
                  refine WL.p (by rfl) (Yl.move (by rfl)) ?_
                  refine WL.callp hs (by rfl) (Yc.func (by rfl) fn45) (calls_conv (congrArg (fun z => ([z, _] : List Value).toArray) (show (.agg #[Sl.v a17.entries] : Value) = .agg #[Sl.v x13.entries] from congrArg (fun l => Value.agg l.toArray) he17)) (c_laws_heldCache a17 _ x13.lg _ (hs.okow (x := a17) (F := F17) (by repeat (first | exact List.mem_cons_self | apply List.mem_cons_of_mem))) (by first | assumption | omega | (simp only [lsz] at *; omega) | (simp only [lsz, strsz, TPolicy.size, TCache.size, TAddr.size, TRequest.size, TEntry.size, TResponse.size, TLine.size] at *; omega) | (simp only [lsz_map, TPage.size, TBuilder.size, TNode.size, TToken.size, TTokenizer.size, TServer.size, TFile.size, TNet.size, TCache.size, TSheet.size, strsz] at *; omega) | (simp only [lsz_map, TPage.size, TBuilder.size, TNode.size, TToken.size, TTokenizer.size, TServer.size, TFile.size, TNet.size, TCache.size, TSheet.size, strsz, lsz] at *; omega)) (by first | omega | (try simp only [hx4, hx7, hx9, hx13, hx15]); (have := costoCache_le aC.lg; have := costStore_le aC.lg aTop aA aX aNow; omega)) (by exact hq17))) ?_
                  clear hs; intro w hs
                  refine WL.p (by rfl) (Yl.assign (by rfl)) ?_
                  refine WL.next ?_
                  refine WC.seq' ?_
                  refine WC.seq ?_
                  refine WL.p (by rfl) (Yl.move (by rfl)) ?_
                  refine WL.p (by rfl) (Yl.lss (by rfl) (by rfl)) ?_
                  refine WL.next ?_
                  refine WC.condS (by rfl) (fun h9 => ?_) (fun h9 => ?_)
                  ·
                    replace h9 := of_decide_eq_true h9
                    refine WC.seq ?_
                    refine WL.p (by rfl) (Yl.assign (by rfl)) ?_
                    refine WL.next ?_
                    refine WC.ret ?_
                    refine At.thenret ?_
                    refine fin1' rfl (by rfl) ?_
                    refine RetP.mk hs ?_
                    try simp only [hx4, hx7, hx9, hx13, hx15, hq16, hq17] at h1
                    try simp only [hx4, hx7, hx9, hx13, hx15, hq16, hq17] at h2
                    try simp only [hx4, hx7, hx9, hx13, hx15, hq16, hq17] at h3
                    try simp only [hx4, hx7, hx9, hx13, hx15, hq16, hq17] at h4
                    try simp only [hx4, hx7, hx9, hx13, hx15, hq16, hq17] at h5
                    try simp only [hx4, hx7, hx9, hx13, hx15, hq16, hq17] at h6
                    try simp only [hx4, hx7, hx9, hx13, hx15, hq16, hq17] at h7
                    try simp only [hx4, hx7, hx9, hx13, hx15, hq16, hq17] at h8
                    try simp only [hx4, hx7, hx9, hx13, hx15, hq16, hq17] at h9
                    all_goals (first | (simp only [hx4, hx7, hx9, hx13, hx15, hq16, hq17]; done) | (exfalso; omega) | simp_all)
                  ·
                    replace h9 := of_decide_eq_false h9
                    refine WC.skipn ?_
                    refine WC.seq' ?_
                    refine WC.seq ?_
                    refine WL.p (by rfl) (Yl.move (by rfl)) ?_
                    refine WL.p (by rfl) (Yl.move (by rfl)) ?_
                    refine WL.p (by rfl) (Yl.nei (by rfl) (by rfl)) ?_
                    refine WL.next ?_
                    refine WC.condS (by rfl) (fun h10 => ?_) (fun h10 => ?_)
                    ·
                      replace h10 := not_eq_true h10
                      replace h10 := of_decide_eq_false h10
                      refine WC.seq ?_
                      refine WL.p (by rfl) (Yl.assign (by rfl)) ?_
                      refine WL.next ?_
                      refine WC.ret ?_
                      refine At.thenret ?_
                      refine fin1' rfl (by rfl) ?_
                      refine RetP.mk hs ?_
                      try simp only [hx4, hx7, hx9, hx13, hx15, hq16, hq17] at h1
                      try simp only [hx4, hx7, hx9, hx13, hx15, hq16, hq17] at h2
                      try simp only [hx4, hx7, hx9, hx13, hx15, hq16, hq17] at h3
                      try simp only [hx4, hx7, hx9, hx13, hx15, hq16, hq17] at h4
                      try simp only [hx4, hx7, hx9, hx13, hx15, hq16, hq17] at h5
                      try simp only [hx4, hx7, hx9, hx13, hx15, hq16, hq17] at h6
                      try simp only [hx4, hx7, hx9, hx13, hx15, hq16, hq17] at h7
                      try simp only [hx4, hx7, hx9, hx13, hx15, hq16, hq17] at h8
                      try simp only [hx4, hx7, hx9, hx13, hx15, hq16, hq17] at h9
                      try simp only [hx4, hx7, hx9, hx13, hx15, hq16, hq17] at h10
                      all_goals (first | (simp only [hx4, hx7, hx9, hx13, hx15, hq16, hq17]; done) | (exfalso; omega) | simp_all)
                    ·
                      replace h10 := not_eq_false h10
                      replace h10 := of_decide_eq_true h10
                      refine WC.skipn ?_
                      refine WC.anyn mixed hs ?_
                      clear hs; intro w hs
                      refine WA.p (i := 0) (by rfl) (by kernel_rfl) (by kernel_rfl) (by kernel_rfl) (by rfl) (hs.only (by repeat (first | exact Sel.nil | (apply Sel.cons; (repeat (first | exact Ext.here | apply Ext.there)))))) (fun w hs => Yl.loadAB agg55 (by rfl) hs (by repeat (first | exact List.mem_cons_self | apply List.mem_cons_of_mem)) (by rfl) (by rfl)) ?_
                      refine WA.p (i := 2) (by rfl) (by kernel_rfl) (by kernel_rfl) (by kernel_rfl) (by rfl) (hs.only (by repeat (first | exact Sel.nil | (apply Sel.cons; (repeat (first | exact Ext.here | apply Ext.there)))))) (fun w hs => Yl.move (by rfl)) ?_
                      refine WA.p (i := 3) (by rfl) (by kernel_rfl) (by kernel_rfl) (by kernel_rfl) (by rfl) (hs.only (by repeat (first | exact Sel.nil | (apply Sel.cons; (repeat (first | exact Ext.here | apply Ext.there)))))) (fun w hs => Yl.loadAB agg72 (by rfl) hs (by repeat (first | exact List.mem_cons_self | apply List.mem_cons_of_mem)) (by rfl) (by rfl)) ?_
                      refine WA.p (i := 5) (by rfl) (by kernel_rfl) (by kernel_rfl) (by kernel_rfl) (by rfl) (hs.only (by repeat (first | exact Sel.nil | (apply Sel.cons; (repeat (first | exact Ext.here | apply Ext.there)))))) (fun w hs => Yl.loadAB agg29 (by rfl) hs (by repeat (first | exact List.mem_cons_self | apply List.mem_cons_of_mem)) (by rfl) (by rfl)) ?_
                      refine WA.p (i := 7) (by rfl) (by kernel_rfl) (by kernel_rfl) (by kernel_rfl) (by rfl) (hs.only (by repeat (first | exact Sel.nil | (apply Sel.cons; (repeat (first | exact Ext.here | apply Ext.there)))))) (fun w hs => Yl.move (by rfl)) ?_
                      refine WA.dag' [(⟨1, 88, [], (fun _ v cs => ∃ (x : PCache) (F : List Nat), v = .agg (Ph.enc x).toArray ∧ cs = [ow x F] ∧ x.lg = aC.lg)⟩, []), (⟨4, 91, [], (fun _ v cs => v = .agg (Ph.enc aA).toArray ∧ cs = [])⟩, [(0, false)]), (⟨6, 93, [], (fun _ v cs => v = .agg (Ph.enc aX).toArray ∧ cs = [])⟩, [(1, false)]), (⟨8, 95, [], (fun _ v cs => ∃ (x : PCache) (F : List Nat), v = .agg (Ph.enc x).toArray ∧ cs = [ow x F] ∧ x.lg = storeEntry (aC.lg) aTop aA aX aNow)⟩, [(0, false), (1, false), (2, false)]), (⟨9, 18, [], (fun _ v cs => ∃ b, v = bp b 0 ∧ cs = [box b 60 [.slice none 0 0]])⟩, [])] [false, false, false, false, false] [(0, _), (1, _), (2, _), (3, _), (4, _), (5, _), (7, _), (8, _), (10, _), (11, _), (12, _), (13, _), (14, _), (15, _), (16, _), (17, _), (19, _), (20, _), (21, _), (22, _), (23, _), (24, _), (25, _), (26, _), (27, _), (28, _), (29, _), (30, _), (31, _), (32, _), (33, _), (34, _), (35, _), (36, _), (37, _), (38, _), (39, _), (40, _), (41, _), (42, _), (43, _), (44, _), (45, _), (46, _), (47, _), (48, _), (49, _), (50, _), (51, _), (52, _), (53, _), (54, _), (55, _), (56, _), (57, _), (58, _), (59, _), (60, _), (61, _), (62, _), (63, _), (64, _), (65, _), (66, _), (67, _), (68, _), (69, _), (70, _), (71, _), (72, _), (73, _), (74, _), (75, _), (76, _), (77, _), (78, _), (79, _), (80, _), (81, _), (82, _), (83, _), (84, _), (85, _), (86, _), (87, _), (89, _), (90, _), (92, _), (94, _)] ⟨by rfl, by rfl, by rfl, by rfl, by rfl, by rfl, by rfl, by rfl, by rfl, by rfl, by rfl, by rfl, by rfl, by rfl, by rfl, by rfl, by rfl, by rfl, by rfl, by rfl, by rfl, by rfl, by rfl, by rfl, by rfl, by rfl, by rfl, by rfl, by rfl, by rfl, by rfl, by rfl, by rfl, by rfl, by rfl, by rfl, by rfl, by rfl, by rfl, by rfl, by rfl, by rfl, by rfl, by rfl, by rfl, by rfl, by rfl, by rfl, by rfl, by rfl, by rfl, by rfl, by rfl, by rfl, by rfl, by rfl, by rfl, by rfl, by rfl, by rfl, by rfl, by rfl, by rfl, by rfl, by rfl, by rfl, by rfl, by rfl, by rfl, by rfl, by rfl, by rfl, by rfl, by rfl, by rfl, by rfl, by rfl, by rfl, by rfl, by rfl, by rfl, by rfl, by rfl, by rfl, by rfl, by rfl, by rfl, by rfl, by rfl, trivial⟩ (by rfl) (by kernel_rfl) (by kernel_rfl) (by kernel_rfl) (by kernel_rfl) (by kernel_rfl) (by kernel_rfl) (by kernel_rfl) (by kernel_rfl) (fun _ hs => hs.only (by repeat (first | exact Sel.nil | (apply Sel.cons; (repeat (first | exact Ext.here | apply Ext.there)))))) hs (fuel := 1) ⟨⟨local_const, ?_⟩, ⟨local_const, ?_⟩, ⟨local_const, ?_⟩, ⟨local_const, ?_⟩, ⟨local_const, ?_⟩, trivial⟩ ?_
                      ·
                        clear hs
                        intro w R hs
                        simp only [List.cons_append, List.nil_append] at hs
                        refine Gives.c' (by rfl) (Yc.func (by rfl) fn32) (c_laws_toCache _ _ (Ph.old h_aC hs) (by first | assumption | omega | (simp only [lsz] at *; omega) | (simp only [lsz, strsz, TPolicy.size, TCache.size, TAddr.size, TRequest.size, TEntry.size, TResponse.size, TLine.size] at *; omega) | (simp only [lsz_map, TPage.size, TBuilder.size, TNode.size, TToken.size, TTokenizer.size, TServer.size, TFile.size, TNet.size, TCache.size, TSheet.size, strsz] at *; omega) | (simp only [lsz_map, TPage.size, TBuilder.size, TNode.size, TToken.size, TTokenizer.size, TServer.size, TFile.size, TNet.size, TCache.size, TSheet.size, strsz, lsz] at *; omega))) ?_
                        rintro _ w1 ⟨_, rfl, hb, x, rfl, hx, hf⟩
                        obtain ⟨F, hs1⟩ := hf.sat hs hb
                        exact ⟨_, rfl, [ow x F], ⟨x, F, rfl, rfl, by first | exact hx | (simp only [hx4, hx7, hx9, hx13, hx15, hq16, hq17] at hx; exact hx)⟩, hs1⟩
                      ·
                        clear hs
                        rintro _ _ ⟨x18, F18, rfl, rfl, hx18⟩
                        intro w R hs
                        simp only [List.cons_append, List.nil_append] at hs
                        refine Gives.c' (by rfl) (Yc.func (by rfl) fn42) (c_laws_toAddr _ _) ?_
                        rintro _ w1 ⟨rfl, hb⟩
                        exact ⟨_, rfl, [], ⟨(by first | rfl | (simp only [hx4, hx7, hx9, hx13, hx15, hq16, hq17, hx18])), rfl⟩, hs.ext hb⟩
                      ·
                        clear hs
                        rintro _ _ ⟨rfl, rfl⟩
                        intro w R hs
                        simp only [List.cons_append, List.nil_append] at hs
                        refine Gives.c' (by rfl) (Yc.func (by rfl) fn18) (c_laws_toResponse _ _) ?_
                        rintro _ w1 ⟨rfl, hb⟩
                        exact ⟨_, rfl, [], ⟨(by first | rfl | (simp only [hx4, hx7, hx9, hx13, hx15, hq16, hq17])), rfl⟩, hs.ext hb⟩
                      ·
                        clear hs
                        rintro _ _ ⟨x18, F18, rfl, rfl, hx18⟩
                        rintro _ _ ⟨rfl, rfl⟩
                        rintro _ _ ⟨rfl, rfl⟩
                        intro w R hs
                        simp only [List.cons_append, List.nil_append] at hs
                        refine Gives.c' (by rfl) (Yc.func (by rfl) fn43) (c_impl_StoreEntry _ _ _ _ _ _ (hs.okow (x := x18) (F := F18) (by repeat (first | exact List.mem_cons_self | apply List.mem_cons_of_mem))) (Ph.old h_aTop hs) (Ph.old h_aA hs) (Ph.old h_aX hs) (Ph.old h_aNow hs) (by first | (rw [hx1]; omega) | (rw [hx2]; omega) | (rw [hx3]; omega) | (rw [hx4]; omega) | (rw [hx5]; omega) | (rw [hx6]; omega) | (rw [hx7]; omega) | (rw [hx8]; omega) | (rw [hx9]; omega) | (rw [hx10]; omega) | (rw [hx11]; omega) | (rw [hx12]; omega) | (rw [hx13]; omega) | (rw [hx14]; omega) | (rw [hx15]; omega) | (rw [hx16]; omega) | (rw [hx17]; omega) | (rw [hx18]; omega) | (rw [hx19]; omega) | (rw [hx20]; omega) | (rw [hx21]; omega) | (rw [hx22]; omega) | (rw [hx23]; omega) | (rw [hx24]; omega) | (rw [hx25]; omega) | (rw [hx26]; omega) | (rw [hx27]; omega) | (rw [hx28]; omega) | (rw [hx29]; omega) | (rw [hx30]; omega) | (rw [hx31]; omega) | (rw [hx32]; omega) | (rw [hx33]; omega) | (rw [hx34]; omega) | (rw [hx35]; omega) | (rw [hx36]; omega) | (rw [hx37]; omega) | (rw [hx38]; omega) | (rw [hx39]; omega) | (rw [hx40]; omega) | (rw [hx41]; omega) | (rw [hx42]; omega) | (rw [hx43]; omega) | (rw [hx44]; omega) | (rw [hx45]; omega) | (rw [hx46]; omega) | (rw [hx47]; omega) | (rw [hx48]; omega) | (rw [hx49]; omega) | (rw [hx50]; omega) | (rw [hx51]; omega) | (rw [hx52]; omega) | (rw [hx53]; omega) | (rw [hx54]; omega) | (rw [hx55]; omega) | (rw [hx56]; omega) | (rw [hx57]; omega) | (rw [hx58]; omega) | (rw [hx59]; omega) | (simp only [PPolicy.lg] at *; omega)) (by first | omega | (have h9 := h3; simp only [TResponse.size] at *; omega) | (simp only [TResponse.size] at *; omega)) (by first | assumption | exact Sat.cellm hs (by assumption))) ?_
                        rintro _ w1 ⟨_, rfl, hb, x, rfl, hx, hf⟩
                        obtain ⟨F, hs1⟩ := hf.sat hs hb
                        exact ⟨_, rfl, [ow x F], ⟨x, F, rfl, rfl, by first | exact hx | (simp only [hx4, hx7, hx9, hx13, hx15, hq16, hq17, hx18] at hx; exact hx)⟩, hs1⟩
                      ·
                        clear hs
                        intro w R hs
                        simp only [List.cons_append, List.nil_append] at hs
                        exact Gives.rr' (by rfl) (Yr.alloc hs zt60) (fun _ _ ⟨b, hv, _, hs1⟩ => ⟨[box b 60 [.slice none 0 0]], ⟨b, hv, rfl⟩, hs1⟩)
                      clear hs
                      rintro _ _ ⟨x18, F18, rfl, rfl, hx18⟩
                      rintro _ _ ⟨rfl, rfl⟩
                      rintro _ _ ⟨rfl, rfl⟩
                      rintro _ _ ⟨x21, F21, rfl, rfl, hx21⟩
                      rintro _ _ ⟨b22, rfl, rfl⟩
                      intro w hs
                      simp only [List.cons_append, List.nil_append, cond_true, cond_false] at hs
                      refine WA.s (i := 10) (by kernel_rfl) (by rfl) (Yr.storeB hs (by rfl) (by rfl) (by rfl) (by repeat (first | exact Repl.here | apply Repl.there)) (by repeat (first | (apply SetAt.here; repeat (first | exact Over.nil | apply Over.cons)) | apply SetAt.there)) (by rfl) (by exact szf60)) (by rintro _ w hs; exact hs.only (by repeat (first | exact Sel.nil | (apply Sel.cons; (repeat (first | exact Ext.here | apply Ext.there)))))) ?_
                      clear hs; rintro _ w hs
                      refine WA.donen (by kernel_rfl) ?_
                      refine WC.seq' ?_
                      refine WC.seq ?_
                      refine WL.p (by rfl) (Yl.loadAB agg60 (by rfl) hs (by repeat (first | exact List.mem_cons_self | apply List.mem_cons_of_mem)) (by rfl) (by rfl)) ?_
                      refine WL.p (by rfl) (Yl.loadAB agg60 (by rfl) hs (by repeat (first | exact List.mem_cons_self | apply List.mem_cons_of_mem)) (by rfl) (by rfl)) ?_
                      refine WL.callp hs (by rfl) (Yc.func (by rfl) fn34) (c_laws_eqCache _ _ _ (hs.okow (x := x21) (F := F21) (by repeat (first | exact List.mem_cons_self | apply List.mem_cons_of_mem))) (hs.okow (x := x7) (F := F7) (by repeat (first | exact List.mem_cons_self | apply List.mem_cons_of_mem)))) ?_
                      clear hs; intro w hs
                      refine WL.p (by rfl) (Yl.not (by rfl)) ?_
                      refine WL.next ?_
                      refine WC.condS (by rfl) (fun h11 => ?_) (fun h11 => ?_)
                      ·
                        replace h11 := not_eq_true h11
                        replace h11 := of_decide_eq_false h11
                        refine WC.seq ?_
                        refine WL.p (by rfl) (Yl.assign (by rfl)) ?_
                        refine WL.next ?_
                        refine WC.ret ?_
                        refine At.thenret ?_
                        refine fin1' rfl (by rfl) ?_
                        refine RetP.mk hs ?_
                        try simp only [hx4, hx7, hx9, hx13, hx15, hq16, hq17, hx18, hx21] at h1
                        try simp only [hx4, hx7, hx9, hx13, hx15, hq16, hq17, hx18, hx21] at h2
                        try simp only [hx4, hx7, hx9, hx13, hx15, hq16, hq17, hx18, hx21] at h3
                        try simp only [hx4, hx7, hx9, hx13, hx15, hq16, hq17, hx18, hx21] at h4
                        try simp only [hx4, hx7, hx9, hx13, hx15, hq16, hq17, hx18, hx21] at h5
                        try simp only [hx4, hx7, hx9, hx13, hx15, hq16, hq17, hx18, hx21] at h6
                        try simp only [hx4, hx7, hx9, hx13, hx15, hq16, hq17, hx18, hx21] at h7
                        try simp only [hx4, hx7, hx9, hx13, hx15, hq16, hq17, hx18, hx21] at h8
                        try simp only [hx4, hx7, hx9, hx13, hx15, hq16, hq17, hx18, hx21] at h9
                        try simp only [hx4, hx7, hx9, hx13, hx15, hq16, hq17, hx18, hx21] at h10
                        try simp only [hx4, hx7, hx9, hx13, hx15, hq16, hq17, hx18, hx21] at h11
                        all_goals (first | (simp only [hx4, hx7, hx9, hx13, hx15, hq16, hq17, hx18, hx21]; done) | (exfalso; omega) | simp_all)
                      ·
                        replace h11 := not_eq_false h11
                        replace h11 := of_decide_eq_true h11
                        refine WC.skipn ?_
                        refine WC.seq ?_
                        refine WL.p (by rfl) (Yl.assign (by rfl)) ?_
                        refine WL.next ?_
                        refine WC.seq ?_
                        refine WL.p (by rfl) (Yl.loadAB agg60 (by rfl) hs (by repeat (first | exact List.mem_cons_self | apply List.mem_cons_of_mem)) (by rfl) (by rfl)) ?_
                        refine WL.p (by rfl) (Yl.move (by rfl)) ?_
                        refine WL.callp hs (by rfl) (Yc.func (by rfl) fn45) (calls_conv (congrArg (fun z => ([z, _] : List Value).toArray) (show (.agg #[Sl.v a17.entries] : Value) = .agg #[Sl.v x13.entries] from congrArg (fun l => Value.agg l.toArray) he17)) (c_laws_heldCache a17 _ x13.lg _ (hs.okow (x := a17) (F := F17) (by repeat (first | exact List.mem_cons_self | apply List.mem_cons_of_mem))) (by first | assumption | omega | (simp only [lsz] at *; omega) | (simp only [lsz, strsz, TPolicy.size, TCache.size, TAddr.size, TRequest.size, TEntry.size, TResponse.size, TLine.size] at *; omega) | (simp only [lsz_map, TPage.size, TBuilder.size, TNode.size, TToken.size, TTokenizer.size, TServer.size, TFile.size, TNet.size, TCache.size, TSheet.size, strsz] at *; omega) | (simp only [lsz_map, TPage.size, TBuilder.size, TNode.size, TToken.size, TTokenizer.size, TServer.size, TFile.size, TNet.size, TCache.size, TSheet.size, strsz, lsz] at *; omega)) (by first | omega | (try simp only [hx4, hx7, hx9, hx13, hx15, hx18, hx21]); (have := costoCache_le aC.lg; have := costStore_le aC.lg aTop aA aX aNow; omega)) (by exact hq17))) ?_
                        clear hs; intro w hs
                        refine WL.p (by rfl) (Yl.assign (by rfl)) ?_
                        refine WL.next ?_
                        refine WC.seq' ?_
                        refine WC.seq ?_
                        refine WL.p (by rfl) (Yl.move (by rfl)) ?_
                        refine WL.p (by rfl) (Yl.lss (by rfl) (by rfl)) ?_
                        refine WL.next ?_
                        refine WC.condS (by rfl) (fun h12 => ?_) (fun h12 => ?_)
                        ·
                          replace h12 := of_decide_eq_true h12
                          refine WC.seq ?_
                          refine WL.p (by rfl) (Yl.assign (by rfl)) ?_
                          refine WL.next ?_
                          refine WC.ret ?_
                          refine At.thenret ?_
                          refine fin1' rfl (by rfl) ?_
                          refine RetP.mk hs ?_
                          try simp only [hx4, hx7, hx9, hx13, hx15, hq16, hq17, hx18, hx21] at h1
                          try simp only [hx4, hx7, hx9, hx13, hx15, hq16, hq17, hx18, hx21] at h2
                          try simp only [hx4, hx7, hx9, hx13, hx15, hq16, hq17, hx18, hx21] at h3
                          try simp only [hx4, hx7, hx9, hx13, hx15, hq16, hq17, hx18, hx21] at h4
                          try simp only [hx4, hx7, hx9, hx13, hx15, hq16, hq17, hx18, hx21] at h5
                          try simp only [hx4, hx7, hx9, hx13, hx15, hq16, hq17, hx18, hx21] at h6
                          try simp only [hx4, hx7, hx9, hx13, hx15, hq16, hq17, hx18, hx21] at h7
                          try simp only [hx4, hx7, hx9, hx13, hx15, hq16, hq17, hx18, hx21] at h8
                          try simp only [hx4, hx7, hx9, hx13, hx15, hq16, hq17, hx18, hx21] at h9
                          try simp only [hx4, hx7, hx9, hx13, hx15, hq16, hq17, hx18, hx21] at h10
                          try simp only [hx4, hx7, hx9, hx13, hx15, hq16, hq17, hx18, hx21] at h11
                          try simp only [hx4, hx7, hx9, hx13, hx15, hq16, hq17, hx18, hx21] at h12
                          all_goals (first | (simp only [hx4, hx7, hx9, hx13, hx15, hq16, hq17, hx18, hx21]; done) | (exfalso; omega) | simp_all)
                        ·
                          replace h12 := of_decide_eq_false h12
                          refine WC.skipn ?_
                          refine WC.seq' ?_
                          refine WC.seq ?_
                          refine WL.p (by rfl) (Yl.move (by rfl)) ?_
                          refine WL.p (by rfl) (Yl.move (by rfl)) ?_
                          refine WL.p (by rfl) (Yl.nei (by rfl) (by rfl)) ?_
                          refine WL.next ?_
                          refine WC.condS (by rfl) (fun h13 => ?_) (fun h13 => ?_)
                          ·
                            replace h13 := not_eq_true h13
                            replace h13 := of_decide_eq_false h13
                            refine WC.seq ?_
                            refine WL.p (by rfl) (Yl.assign (by rfl)) ?_
                            refine WL.next ?_
                            refine WC.ret ?_
                            refine At.thenret ?_
                            refine fin1' rfl (by rfl) ?_
                            refine RetP.mk hs ?_
                            try simp only [hx4, hx7, hx9, hx13, hx15, hq16, hq17, hx18, hx21] at h1
                            try simp only [hx4, hx7, hx9, hx13, hx15, hq16, hq17, hx18, hx21] at h2
                            try simp only [hx4, hx7, hx9, hx13, hx15, hq16, hq17, hx18, hx21] at h3
                            try simp only [hx4, hx7, hx9, hx13, hx15, hq16, hq17, hx18, hx21] at h4
                            try simp only [hx4, hx7, hx9, hx13, hx15, hq16, hq17, hx18, hx21] at h5
                            try simp only [hx4, hx7, hx9, hx13, hx15, hq16, hq17, hx18, hx21] at h6
                            try simp only [hx4, hx7, hx9, hx13, hx15, hq16, hq17, hx18, hx21] at h7
                            try simp only [hx4, hx7, hx9, hx13, hx15, hq16, hq17, hx18, hx21] at h8
                            try simp only [hx4, hx7, hx9, hx13, hx15, hq16, hq17, hx18, hx21] at h9
                            try simp only [hx4, hx7, hx9, hx13, hx15, hq16, hq17, hx18, hx21] at h10
                            try simp only [hx4, hx7, hx9, hx13, hx15, hq16, hq17, hx18, hx21] at h11
                            try simp only [hx4, hx7, hx9, hx13, hx15, hq16, hq17, hx18, hx21] at h12
                            try simp only [hx4, hx7, hx9, hx13, hx15, hq16, hq17, hx18, hx21] at h13
                            all_goals (first | (simp only [hx4, hx7, hx9, hx13, hx15, hq16, hq17, hx18, hx21]; done) | (exfalso; omega) | simp_all)
                          ·
                            replace h13 := not_eq_false h13
                            replace h13 := of_decide_eq_true h13
                            refine WC.skipn ?_
                            refine WC.seq ?_
                            refine WL.p (by rfl) (Yl.assign (by rfl)) ?_
                            refine WL.next ?_
                            refine WC.ret ?_
                            refine fin1' rfl (by rfl) ?_
                            refine RetP.mk hs ?_
                            try simp only [hx4, hx7, hx9, hx13, hx15, hq16, hq17, hx18, hx21] at h1
                            try simp only [hx4, hx7, hx9, hx13, hx15, hq16, hq17, hx18, hx21] at h2
                            try simp only [hx4, hx7, hx9, hx13, hx15, hq16, hq17, hx18, hx21] at h3
                            try simp only [hx4, hx7, hx9, hx13, hx15, hq16, hq17, hx18, hx21] at h4
                            try simp only [hx4, hx7, hx9, hx13, hx15, hq16, hq17, hx18, hx21] at h5
                            try simp only [hx4, hx7, hx9, hx13, hx15, hq16, hq17, hx18, hx21] at h6
                            try simp only [hx4, hx7, hx9, hx13, hx15, hq16, hq17, hx18, hx21] at h7
                            try simp only [hx4, hx7, hx9, hx13, hx15, hq16, hq17, hx18, hx21] at h8
                            try simp only [hx4, hx7, hx9, hx13, hx15, hq16, hq17, hx18, hx21] at h9
                            try simp only [hx4, hx7, hx9, hx13, hx15, hq16, hq17, hx18, hx21] at h10
                            try simp only [hx4, hx7, hx9, hx13, hx15, hq16, hq17, hx18, hx21] at h11
                            try simp only [hx4, hx7, hx9, hx13, hx15, hq16, hq17, hx18, hx21] at h12
                            try simp only [hx4, hx7, hx9, hx13, hx15, hq16, hq17, hx18, hx21] at h13
                            all_goals (first | (simp only [hx4, hx7, hx9, hx13, hx15, hq16, hq17, hx18, hx21]; done) | (exfalso; omega) | simp_all)

end Go.Sw
