/- Walks: what each function of the program returns, for every input. Printed by gen.py. -/
import Derived.Test.YtchijbcooilhnaaFx
namespace Go.Sw
open Go Go.RowKit Go.Proofs

theorem c_spec_l1In (x : Int) (least : Int) (most : Int) (w : World)   : Calls Try.prog 27 [I x, I least, I most].toArray w (RetP w (Bo (inR x least most))) := by
  refine enterN 15 Try.func27 rfl rfl rfl ?_
  have hs := Sat.start w
  refine WC.seq ?_
  refine WL.p (by rfl) (Yl.assign (by rfl)) ?_
  refine WL.next ?_
  refine WC.seq ?_
  refine WL.p (by rfl) (Yl.move (by rfl)) ?_
  refine WL.p (by rfl) (Yl.move (by rfl)) ?_
  refine WL.p (by rfl) (Yl.geq (by rfl) (by rfl)) ?_
  refine WL.p (by rfl) (Yl.move (by rfl)) ?_
  refine WL.split (d := 10) (by rfl) (fun h1 => ?_) (fun h1 => ?_)
  ·
    replace h1 := of_decide_eq_true h1
    refine WL.run (d := 10) (by rfl) (by rfl) ?_
    refine WL.p (by rfl) (Yl.move (by rfl)) ?_
    refine WL.run (d := 10) (by rfl) (by rfl) ?_
    refine WL.p (by rfl) (Yl.move (by rfl)) ?_
    refine WL.run (d := 10) (by rfl) (by rfl) ?_
    refine WL.p (by rfl) (Yl.leq (by rfl) (by rfl)) ?_
    refine WL.p (by rfl) (Yl.pickT (by rfl) (by rfl)) ?_
    refine WL.p (by rfl) (Yl.assign (by rfl)) ?_
    refine WL.next ?_
    refine WC.ret ?_
    refine fin1' rfl (by rfl) ?_
    refine RetP.mk hs ?_
    simp [inR, h1]
  ·
    replace h1 := of_decide_eq_false h1
    refine WL.skip (d := 10) (by rfl) (by rfl) (by rfl) (by rfl) ?_
    refine WL.skip (d := 10) (by rfl) (by rfl) (by rfl) (by rfl) ?_
    refine WL.skip (d := 10) (by rfl) (by rfl) (by rfl) (by rfl) ?_
    refine WL.p (by rfl) (Yl.pickF (by rfl) (by rfl)) ?_
    refine WL.p (by rfl) (Yl.assign (by rfl)) ?_
    refine WL.next ?_
    refine WC.ret ?_
    refine fin1' rfl (by rfl) ?_
    refine RetP.mk hs ?_
    rw [inR_false.2 (by omega)]

theorem c_impl_InRange (n : Int) (low : Int) (high : Int) (w : World)   : Calls Try.prog 28 [I n, I low, I high].toArray w (RetP w (Bo (inR n low high))) := by
  refine enterN 15 Try.func28 rfl rfl rfl ?_
  have hs := Sat.start w
  refine WC.seq ?_
  refine WL.p (by rfl) (Yl.assign (by rfl)) ?_
  refine WL.next ?_
  refine WC.seq ?_
  refine WL.p (by rfl) (Yl.move (by rfl)) ?_
  refine WL.p (by rfl) (Yl.move (by rfl)) ?_
  refine WL.p (by rfl) (Yl.leq (by rfl) (by rfl)) ?_
  refine WL.p (by rfl) (Yl.move (by rfl)) ?_
  refine WL.split (d := 10) (by rfl) (fun h1 => ?_) (fun h1 => ?_)
  ·
    replace h1 := of_decide_eq_true h1
    refine WL.run (d := 10) (by rfl) (by rfl) ?_
    refine WL.p (by rfl) (Yl.move (by rfl)) ?_
    refine WL.run (d := 10) (by rfl) (by rfl) ?_
    refine WL.p (by rfl) (Yl.move (by rfl)) ?_
    refine WL.run (d := 10) (by rfl) (by rfl) ?_
    refine WL.p (by rfl) (Yl.leq (by rfl) (by rfl)) ?_
    refine WL.p (by rfl) (Yl.pickT (by rfl) (by rfl)) ?_
    refine WL.p (by rfl) (Yl.assign (by rfl)) ?_
    refine WL.next ?_
    refine WC.ret ?_
    refine fin1' rfl (by rfl) ?_
    refine RetP.mk hs ?_
    simp [inR, h1]
  ·
    replace h1 := of_decide_eq_false h1
    refine WL.skip (d := 10) (by rfl) (by rfl) (by rfl) (by rfl) ?_
    refine WL.skip (d := 10) (by rfl) (by rfl) (by rfl) (by rfl) ?_
    refine WL.skip (d := 10) (by rfl) (by rfl) (by rfl) (by rfl) ?_
    refine WL.p (by rfl) (Yl.pickF (by rfl) (by rfl)) ?_
    refine WL.p (by rfl) (Yl.assign (by rfl)) ?_
    refine WL.next ?_
    refine WC.ret ?_
    refine fin1' rfl (by rfl) ?_
    refine RetP.mk hs ?_
    rw [inR_false.2 (by omega)]

theorem c_spec_KindName (kind : Int) (w : World)   : Calls Try.prog 10 [I kind].toArray w (RetP w (S (kindName kind))) := by
  refine enterN 10 Try.func10 rfl rfl rfl ?_
  have hs := Sat.start w
  refine WC.seq ?_
  refine WL.p (by rfl) (Yl.assign (by rfl)) ?_
  refine WL.next ?_
  refine WC.seq' ?_
  refine WC.seq ?_
  refine WL.p (by rfl) (Yl.move (by rfl)) ?_
  refine WL.callp hs (by rfl) (Yc.func (by rfl) fn27) (c_spec_l1In _ _ _ _) ?_
  clear hs; intro w hs
  refine WL.p (by rfl) (Yl.not (by rfl)) ?_
  refine WL.next ?_
  refine WC.condS (by rfl) (fun h1 => ?_) (fun h1 => ?_)
  ·
    replace h1 := not_eq_true h1
    replace h1 := inR_false.1 h1
    refine WC.seq ?_
    refine WL.p (by rfl) (Yl.assign (by rfl)) ?_
    refine WL.next ?_
    refine WC.ret ?_
    refine At.thenret ?_
    refine fin1' rfl (by rfl) ?_
    refine RetP.mk hs ?_
    rw [kindName_out (by omega)]
  ·
    replace h1 := not_eq_false h1
    replace h1 := inR_true.1 h1
    refine WC.skipn ?_
    refine WC.seq ?_
    refine WL.r (by rfl) (Yr.buildSlice hs sll39 (by rfl) (by rfl) (by rfl) (by repeat (first | exact Fill.nil | (apply Fill.cons; rfl; rfl; rfl; repeat (first | (apply SetAt.here; repeat (first | exact Over.nil | apply Over.cons)) | apply SetAt.there)))) (by rfl)) ?_
    clear hs; rintro _ w ⟨b1, rfl, hb, hs⟩; clear hb
    refine WL.p (by rfl) (Yl.move (by rfl)) ?_
    refine WL.p (by rfl) (Yl.indexB (i := (kind).toNat) slt39 (by rfl) (by rfl) (by first | rfl | omega) (by first | decide | omega)) ?_
    refine WL.p (by rfl) (Yl.loadB sca9 (by rfl) hs (by repeat (first | exact List.mem_cons_self | apply List.mem_cons_of_mem)) (show _ = some (S (kindName kind)) from by rcases (by omega : kind = 1 ∨ kind = 2 ∨ kind = 3 ∨ kind = 4 ∨ kind = 5) with rfl | rfl | rfl | rfl | rfl <;> rfl)) ?_
    refine WL.p (by rfl) (Yl.assign (by rfl)) ?_
    refine WL.next ?_
    refine WC.ret ?_
    refine fin1' rfl (by rfl) ?_
    refine RetP.mk hs ?_
    rfl

theorem c_impl_KindName (kind : Int) (w : World)   : Calls Try.prog 11 [I kind].toArray w (RetP w (S (kindName kind))) := by
  refine enterN 11 Try.func11 rfl rfl rfl ?_
  have hs := Sat.start w
  refine WC.seq ?_
  refine WL.p (by rfl) (Yl.assign (by rfl)) ?_
  refine WL.next ?_
  refine WC.seq' ?_
  refine WC.seq ?_
  refine WL.p (by rfl) (Yl.move (by rfl)) ?_
  refine WL.callp hs (by rfl) (Yc.func (by rfl) fn28) (c_impl_InRange _ _ _ _) ?_
  clear hs; intro w hs
  refine WL.p (by rfl) (Yl.not (by rfl)) ?_
  refine WL.next ?_
  refine WC.condS (by rfl) (fun h1 => ?_) (fun h1 => ?_)
  ·
    replace h1 := not_eq_true h1
    replace h1 := inR_false.1 h1
    refine WC.seq ?_
    refine WL.p (by rfl) (Yl.assign (by rfl)) ?_
    refine WL.next ?_
    refine WC.ret ?_
    refine At.thenret ?_
    refine fin1' rfl (by rfl) ?_
    refine RetP.mk hs ?_
    rw [kindName_out (by omega)]
  ·
    replace h1 := not_eq_false h1
    replace h1 := inR_true.1 h1
    refine WC.skipn ?_
    refine WC.seq ?_
    refine WL.r (by rfl) (Yr.buildSlice hs sll39 (by rfl) (by rfl) (by rfl) (by repeat (first | exact Fill.nil | (apply Fill.cons; rfl; rfl; rfl; repeat (first | (apply SetAt.here; repeat (first | exact Over.nil | apply Over.cons)) | apply SetAt.there)))) (by rfl)) ?_
    clear hs; rintro _ w ⟨b1, rfl, hb, hs⟩; clear hb
    refine WL.p (by rfl) (Yl.move (by rfl)) ?_
    refine WL.p (by rfl) (Yl.sub_ (by rfl) (by rfl) (by omega)) ?_
    refine WL.p (by rfl) (Yl.indexB (i := (kind - 1).toNat) slt39 (by rfl) (by rfl) (by first | rfl | omega) (by first | decide | omega)) ?_
    refine WL.p (by rfl) (Yl.loadB sca9 (by rfl) hs (by repeat (first | exact List.mem_cons_self | apply List.mem_cons_of_mem)) (show _ = some (S (kindName kind)) from by rcases (by omega : kind = 1 ∨ kind = 2 ∨ kind = 3 ∨ kind = 4 ∨ kind = 5) with rfl | rfl | rfl | rfl | rfl <;> rfl)) ?_
    refine WL.p (by rfl) (Yl.assign (by rfl)) ?_
    refine WL.next ?_
    refine WC.ret ?_
    refine fin1' rfl (by rfl) ?_
    refine RetP.mk hs ?_
    rfl

theorem c_spec_VerdictName (code : Int) (w : World)   : Calls Try.prog 12 [I code].toArray w (RetP w (S (verdictName code))) := by
  refine enterN 10 Try.func12 rfl rfl rfl ?_
  have hs := Sat.start w
  refine WC.seq ?_
  refine WL.p (by rfl) (Yl.assign (by rfl)) ?_
  refine WL.next ?_
  refine WC.seq' ?_
  refine WC.seq ?_
  refine WL.p (by rfl) (Yl.move (by rfl)) ?_
  refine WL.callp hs (by rfl) (Yc.func (by rfl) fn27) (c_spec_l1In _ _ _ _) ?_
  clear hs; intro w hs
  refine WL.p (by rfl) (Yl.not (by rfl)) ?_
  refine WL.next ?_
  refine WC.condS (by rfl) (fun h1 => ?_) (fun h1 => ?_)
  ·
    replace h1 := not_eq_true h1
    replace h1 := inR_false.1 h1
    refine WC.seq ?_
    refine WL.p (by rfl) (Yl.assign (by rfl)) ?_
    refine WL.next ?_
    refine WC.ret ?_
    refine At.thenret ?_
    refine fin1' rfl (by rfl) ?_
    refine RetP.mk hs ?_
    rw [verdictName_out (by omega)]
  ·
    replace h1 := not_eq_false h1
    replace h1 := inR_true.1 h1
    refine WC.skipn ?_
    refine WC.seq ?_
    refine WL.r (by rfl) (Yr.buildSlice hs sll39 (by rfl) (by rfl) (by rfl) (by repeat (first | exact Fill.nil | (apply Fill.cons; rfl; rfl; rfl; repeat (first | (apply SetAt.here; repeat (first | exact Over.nil | apply Over.cons)) | apply SetAt.there)))) (by rfl)) ?_
    clear hs; rintro _ w ⟨b1, rfl, hb, hs⟩; clear hb
    refine WL.p (by rfl) (Yl.move (by rfl)) ?_
    refine WL.p (by rfl) (Yl.indexB (i := (code).toNat) slt39 (by rfl) (by rfl) (by first | rfl | omega) (by first | decide | omega)) ?_
    refine WL.p (by rfl) (Yl.loadB sca9 (by rfl) hs (by repeat (first | exact List.mem_cons_self | apply List.mem_cons_of_mem)) (show _ = some (S (verdictName code)) from by rcases (by omega : code = 1 ∨ code = 2 ∨ code = 3 ∨ code = 4 ∨ code = 5 ∨ code = 6) with rfl | rfl | rfl | rfl | rfl | rfl <;> rfl)) ?_
    refine WL.p (by rfl) (Yl.assign (by rfl)) ?_
    refine WL.next ?_
    refine WC.ret ?_
    refine fin1' rfl (by rfl) ?_
    refine RetP.mk hs ?_
    rfl

theorem c_impl_VerdictName (code : Int) (w : World)   : Calls Try.prog 13 [I code].toArray w (RetP w (S (verdictName code))) := by
  refine enterN 11 Try.func13 rfl rfl rfl ?_
  have hs := Sat.start w
  refine WC.seq ?_
  refine WL.p (by rfl) (Yl.assign (by rfl)) ?_
  refine WL.next ?_
  refine WC.seq' ?_
  refine WC.seq ?_
  refine WL.p (by rfl) (Yl.move (by rfl)) ?_
  refine WL.callp hs (by rfl) (Yc.func (by rfl) fn28) (c_impl_InRange _ _ _ _) ?_
  clear hs; intro w hs
  refine WL.p (by rfl) (Yl.not (by rfl)) ?_
  refine WL.next ?_
  refine WC.condS (by rfl) (fun h1 => ?_) (fun h1 => ?_)
  ·
    replace h1 := not_eq_true h1
    replace h1 := inR_false.1 h1
    refine WC.seq ?_
    refine WL.p (by rfl) (Yl.assign (by rfl)) ?_
    refine WL.next ?_
    refine WC.ret ?_
    refine At.thenret ?_
    refine fin1' rfl (by rfl) ?_
    refine RetP.mk hs ?_
    rw [verdictName_out (by omega)]
  ·
    replace h1 := not_eq_false h1
    replace h1 := inR_true.1 h1
    refine WC.skipn ?_
    refine WC.seq ?_
    refine WL.r (by rfl) (Yr.buildSlice hs sll39 (by rfl) (by rfl) (by rfl) (by repeat (first | exact Fill.nil | (apply Fill.cons; rfl; rfl; rfl; repeat (first | (apply SetAt.here; repeat (first | exact Over.nil | apply Over.cons)) | apply SetAt.there)))) (by rfl)) ?_
    clear hs; rintro _ w ⟨b1, rfl, hb, hs⟩; clear hb
    refine WL.p (by rfl) (Yl.move (by rfl)) ?_
    refine WL.p (by rfl) (Yl.sub_ (by rfl) (by rfl) (by omega)) ?_
    refine WL.p (by rfl) (Yl.indexB (i := (code - 1).toNat) slt39 (by rfl) (by rfl) (by first | rfl | omega) (by first | decide | omega)) ?_
    refine WL.p (by rfl) (Yl.loadB sca9 (by rfl) hs (by repeat (first | exact List.mem_cons_self | apply List.mem_cons_of_mem)) (show _ = some (S (verdictName code)) from by rcases (by omega : code = 1 ∨ code = 2 ∨ code = 3 ∨ code = 4 ∨ code = 5 ∨ code = 6) with rfl | rfl | rfl | rfl | rfl | rfl <;> rfl)) ?_
    refine WL.p (by rfl) (Yl.assign (by rfl)) ?_
    refine WL.next ?_
    refine WC.ret ?_
    refine fin1' rfl (by rfl) ?_
    refine RetP.mk hs ?_
    rfl

theorem c_spec_KindOfMode (mode : Int) (w : World)   : Calls Try.prog 14 [I mode].toArray w (RetP w (I (kindOfMode mode))) := by
  refine enterN 11 Try.func14 rfl rfl rfl ?_
  have hs := Sat.start w
  refine WC.seq ?_
  refine WL.p (by rfl) (Yl.assign (by rfl)) ?_
  refine WL.next ?_
  refine WC.seq' ?_
  refine WC.seq ?_
  refine WL.p (by rfl) (Yl.move (by rfl)) ?_
  refine WL.next ?_
  refine WC.block ?_
  refine WC.seq ?_
  refine WL.p (by rfl) (Yl.eqi (by rfl) (by rfl)) ?_
  refine WL.p (by rfl) (Yl.assign (by rfl)) ?_
  refine WL.next ?_
  refine WC.condS (by rfl) (fun h1 => ?_) (fun h1 => ?_)
  ·
    replace h1 := of_decide_eq_true h1
    refine WC.seq ?_
    refine WL.p (by rfl) (Yl.assign (by rfl)) ?_
    refine WL.next ?_
    refine WC.ret ?_
    refine At.blockret ?_
    refine At.thenret ?_
    refine fin1' rfl (by rfl) ?_
    refine RetP.mk hs ?_
    first | (subst h1; rfl) | (subst h2; rfl) | (subst h3; rfl) | (subst h4; rfl) | (rw [kindOfMode_out (by omega) (by omega) (by omega) (by omega)])
  ·
    replace h1 := of_decide_eq_false h1
    refine WC.seq ?_
    refine WL.p (by rfl) (Yl.eqi (by rfl) (by rfl)) ?_
    refine WL.p (by rfl) (Yl.assign (by rfl)) ?_
    refine WL.next ?_
    refine WC.condS (by rfl) (fun h2 => ?_) (fun h2 => ?_)
    ·
      replace h2 := of_decide_eq_true h2
      refine WC.seq ?_
      refine WL.p (by rfl) (Yl.assign (by rfl)) ?_
      refine WL.next ?_
      refine WC.ret ?_
      refine At.blockret ?_
      refine At.thenret ?_
      refine fin1' rfl (by rfl) ?_
      refine RetP.mk hs ?_
      first | (subst h1; rfl) | (subst h2; rfl) | (subst h3; rfl) | (subst h4; rfl) | (rw [kindOfMode_out (by omega) (by omega) (by omega) (by omega)])
    ·
      replace h2 := of_decide_eq_false h2
      refine WC.seq' ?_
      refine WC.seq ?_
      refine WL.p (by rfl) (Yl.eqi (by rfl) (by rfl)) ?_
      refine WL.p (by rfl) (Yl.assign (by rfl)) ?_
      refine WL.next ?_
      refine WC.condS (by rfl) (fun h3 => ?_) (fun h3 => ?_)
      ·
        replace h3 := of_decide_eq_true h3
        refine WC.skipn ?_
        refine WC.condT (by rfl) ?_
        refine WC.seq ?_
        refine WL.p (by rfl) (Yl.assign (by rfl)) ?_
        refine WL.next ?_
        refine WC.ret ?_
        refine At.blockret ?_
        refine At.thenret ?_
        refine fin1' rfl (by rfl) ?_
        refine RetP.mk hs ?_
        first | (subst h1; rfl) | (subst h2; rfl) | (subst h3; rfl) | (subst h4; rfl) | (rw [kindOfMode_out (by omega) (by omega) (by omega) (by omega)])
      ·
        replace h3 := of_decide_eq_false h3
        refine WC.region ?_
        refine WL.p (by rfl) (Yl.eqi (by rfl) (by rfl)) ?_
        refine WL.p (by rfl) (Yl.assign (by rfl)) ?_
        refine WL.nil ?_
        refine At.then_ ?_
        refine WC.condS (by rfl) (fun h4 => ?_) (fun h4 => ?_)
        ·
          replace h4 := of_decide_eq_true h4
          refine WC.seq ?_
          refine WL.p (by rfl) (Yl.assign (by rfl)) ?_
          refine WL.next ?_
          refine WC.ret ?_
          refine At.blockret ?_
          refine At.thenret ?_
          refine fin1' rfl (by rfl) ?_
          refine RetP.mk hs ?_
          first | (subst h1; rfl) | (subst h2; rfl) | (subst h3; rfl) | (subst h4; rfl) | (rw [kindOfMode_out (by omega) (by omega) (by omega) (by omega)])
        ·
          replace h4 := of_decide_eq_false h4
          refine WC.skip ?_
          refine At.blocknormal ?_
          refine At.then_ ?_
          refine WC.seq ?_
          refine WL.p (by rfl) (Yl.assign (by rfl)) ?_
          refine WL.next ?_
          refine WC.ret ?_
          refine fin1' rfl (by rfl) ?_
          refine RetP.mk hs ?_
          first | (subst h1; rfl) | (subst h2; rfl) | (subst h3; rfl) | (subst h4; rfl) | (rw [kindOfMode_out (by omega) (by omega) (by omega) (by omega)])

theorem c_impl_KindOfMode (mode : Int) (w : World)   : Calls Try.prog 15 [I mode].toArray w (RetP w (I (kindOfMode mode))) := by
  refine enterN 11 Try.func15 rfl rfl rfl ?_
  have hs := Sat.start w
  refine WC.seq ?_
  refine WL.p (by rfl) (Yl.assign (by rfl)) ?_
  refine WL.next ?_
  refine WC.seq' ?_
  refine WC.seq ?_
  refine WL.p (by rfl) (Yl.move (by rfl)) ?_
  refine WL.next ?_
  refine WC.block ?_
  refine WC.seq ?_
  refine WL.p (by rfl) (Yl.eqi (by rfl) (by rfl)) ?_
  refine WL.p (by rfl) (Yl.assign (by rfl)) ?_
  refine WL.next ?_
  refine WC.condS (by rfl) (fun h1 => ?_) (fun h1 => ?_)
  ·
    replace h1 := of_decide_eq_true h1
    refine WC.seq ?_
    refine WL.p (by rfl) (Yl.assign (by rfl)) ?_
    refine WL.next ?_
    refine WC.ret ?_
    refine At.blockret ?_
    refine At.thenret ?_
    refine fin1' rfl (by rfl) ?_
    refine RetP.mk hs ?_
    first | (subst h1; rfl) | (subst h2; rfl) | (subst h3; rfl) | (subst h4; rfl) | (rw [kindOfMode_out (by omega) (by omega) (by omega) (by omega)])
  ·
    replace h1 := of_decide_eq_false h1
    refine WC.seq ?_
    refine WL.p (by rfl) (Yl.eqi (by rfl) (by rfl)) ?_
    refine WL.p (by rfl) (Yl.assign (by rfl)) ?_
    refine WL.next ?_
    refine WC.condS (by rfl) (fun h2 => ?_) (fun h2 => ?_)
    ·
      replace h2 := of_decide_eq_true h2
      refine WC.seq ?_
      refine WL.p (by rfl) (Yl.assign (by rfl)) ?_
      refine WL.next ?_
      refine WC.ret ?_
      refine At.blockret ?_
      refine At.thenret ?_
      refine fin1' rfl (by rfl) ?_
      refine RetP.mk hs ?_
      first | (subst h1; rfl) | (subst h2; rfl) | (subst h3; rfl) | (subst h4; rfl) | (rw [kindOfMode_out (by omega) (by omega) (by omega) (by omega)])
    ·
      replace h2 := of_decide_eq_false h2
      refine WC.seq' ?_
      refine WC.seq ?_
      refine WL.p (by rfl) (Yl.eqi (by rfl) (by rfl)) ?_
      refine WL.p (by rfl) (Yl.assign (by rfl)) ?_
      refine WL.next ?_
      refine WC.condS (by rfl) (fun h3 => ?_) (fun h3 => ?_)
      ·
        replace h3 := of_decide_eq_true h3
        refine WC.skipn ?_
        refine WC.condT (by rfl) ?_
        refine WC.seq ?_
        refine WL.p (by rfl) (Yl.assign (by rfl)) ?_
        refine WL.next ?_
        refine WC.ret ?_
        refine At.blockret ?_
        refine At.thenret ?_
        refine fin1' rfl (by rfl) ?_
        refine RetP.mk hs ?_
        first | (subst h1; rfl) | (subst h2; rfl) | (subst h3; rfl) | (subst h4; rfl) | (rw [kindOfMode_out (by omega) (by omega) (by omega) (by omega)])
      ·
        replace h3 := of_decide_eq_false h3
        refine WC.region ?_
        refine WL.p (by rfl) (Yl.eqi (by rfl) (by rfl)) ?_
        refine WL.p (by rfl) (Yl.assign (by rfl)) ?_
        refine WL.nil ?_
        refine At.then_ ?_
        refine WC.condS (by rfl) (fun h4 => ?_) (fun h4 => ?_)
        ·
          replace h4 := of_decide_eq_true h4
          refine WC.seq ?_
          refine WL.p (by rfl) (Yl.assign (by rfl)) ?_
          refine WL.next ?_
          refine WC.ret ?_
          refine At.blockret ?_
          refine At.thenret ?_
          refine fin1' rfl (by rfl) ?_
          refine RetP.mk hs ?_
          first | (subst h1; rfl) | (subst h2; rfl) | (subst h3; rfl) | (subst h4; rfl) | (rw [kindOfMode_out (by omega) (by omega) (by omega) (by omega)])
        ·
          replace h4 := of_decide_eq_false h4
          refine WC.skip ?_
          refine At.blocknormal ?_
          refine At.then_ ?_
          refine WC.seq ?_
          refine WL.p (by rfl) (Yl.assign (by rfl)) ?_
          refine WL.next ?_
          refine WC.ret ?_
          refine fin1' rfl (by rfl) ?_
          refine RetP.mk hs ?_
          first | (subst h1; rfl) | (subst h2; rfl) | (subst h3; rfl) | (subst h4; rfl) | (rw [kindOfMode_out (by omega) (by omega) (by omega) (by omega)])

theorem c_spec_NotFound  (w : World)   : Calls Try.prog 16 [].toArray w (RetP w (.agg (Ph.enc notFound).toArray)) := by
  refine enterN 2 Try.func16 rfl rfl rfl ?_
  have hs := Sat.start w
  refine WC.seq ?_
  refine WL.r (by rfl) (Yr.alloc hs zt26) ?_
  clear hs; rintro _ w ⟨b1, rfl, hb, hs⟩; clear hb
  refine WL.next ?_
  refine WC.seq ?_
  refine WL.p (by rfl) (Yl.build bt26 (by rfl) (by repeat (first | exact Fill.nil | (apply Fill.cons; rfl; rfl; rfl; repeat (first | (apply SetAt.here; repeat (first | exact Over.nil | apply Over.cons)) | apply SetAt.there))))) ?_
  refine WL.s (Yr.storeB hs (by rfl) (by rfl) (by rfl) (by repeat (first | exact Repl.here | apply Repl.there)) (by repeat (first | (apply SetAt.here; repeat (first | exact Over.nil | apply Over.cons)) | apply SetAt.there)) (by rfl) (by exact szf26)) ?_
  clear hs; intro _ w hs
  refine WL.next ?_
  refine WC.ret ?_
  refine fin1c rfl agg26 (by rfl) hs (by repeat (first | exact List.mem_cons_self | apply List.mem_cons_of_mem)) (by rfl) ?_
  refine RetP.mk hs ?_
  rfl

theorem c_impl_NotFound  (w : World)   : Calls Try.prog 17 [].toArray w (RetP w (.agg (Ph.enc notFound).toArray)) := by
  refine enterN 2 Try.func17 rfl rfl rfl ?_
  have hs := Sat.start w
  refine WC.seq ?_
  refine WL.r (by rfl) (Yr.alloc hs zt26) ?_
  clear hs; rintro _ w ⟨b1, rfl, hb, hs⟩; clear hb
  refine WL.next ?_
  refine WC.seq ?_
  refine WL.p (by rfl) (Yl.build bt26 (by rfl) (by repeat (first | exact Fill.nil | (apply Fill.cons; rfl; rfl; rfl; repeat (first | (apply SetAt.here; repeat (first | exact Over.nil | apply Over.cons)) | apply SetAt.there))))) ?_
  refine WL.s (Yr.storeB hs (by rfl) (by rfl) (by rfl) (by repeat (first | exact Repl.here | apply Repl.there)) (by repeat (first | (apply SetAt.here; repeat (first | exact Over.nil | apply Over.cons)) | apply SetAt.there)) (by rfl) (by exact szf26)) ?_
  clear hs; intro _ w hs
  refine WL.next ?_
  refine WC.ret ?_
  refine fin1c rfl agg26 (by rfl) hs (by repeat (first | exact List.mem_cons_self | apply List.mem_cons_of_mem)) (by rfl) ?_
  refine RetP.mk hs ?_
  rfl

theorem c_laws_eqResponse (a : TResponse) (b : TResponse) (w : World)   : Calls Try.prog 18 [.agg #[I a.status, I a.kind, S a.body, I a.age, Bo a.shares, S a.policy], .agg #[I b.status, I b.kind, S b.body, I b.age, Bo b.shares, S b.policy]].toArray w (RetP w (Bo (decide (a = b)))) := by
  refine enterN 35 Try.func18 rfl rfl rfl ?_
  have hs := Sat.start w
  refine WC.seq ?_
  refine WL.r (by rfl) (Yr.box hs (by rfl) (by rfl)) ?_
  clear hs; rintro _ w ⟨b1, rfl, hb, hs⟩; clear hb
  refine WL.r (by rfl) (Yr.box hs (by rfl) (by rfl)) ?_
  clear hs; rintro _ w ⟨b2, rfl, hb, hs⟩; clear hb
  refine WL.p (by rfl) (Yl.assign (by rfl)) ?_
  refine WL.next ?_
  refine WC.seq' ?_
  refine WC.seq ?_
  refine WL.p (by rfl) (Yl.fieldAddr fa26_0 (by rfl)) ?_
  refine WL.p (by rfl) (Yl.loadB sca3 (by rfl) hs (by repeat (first | exact List.mem_cons_self | apply List.mem_cons_of_mem)) (by rfl)) ?_
  refine WL.p (by rfl) (Yl.fieldAddr fa26_0 (by rfl)) ?_
  refine WL.p (by rfl) (Yl.loadB sca3 (by rfl) hs (by repeat (first | exact List.mem_cons_self | apply List.mem_cons_of_mem)) (by rfl)) ?_
  refine WL.p (by rfl) (Yl.nei (by rfl) (by rfl)) ?_
  refine WL.next ?_
  refine WC.condS (by rfl) (fun h1 => ?_) (fun h1 => ?_)
  ·
    replace h1 := not_eq_true h1
    replace h1 := of_decide_eq_false h1
    refine WC.seq ?_
    refine WL.p (by rfl) (Yl.assign (by rfl)) ?_
    refine WL.next ?_
    refine WC.ret ?_
    refine At.thenret ?_
    refine fin1' rfl (by rfl) ?_
    refine RetP.mk hs ?_
    simp_all [TResponse.ext_iff]
  ·
    replace h1 := not_eq_false h1
    replace h1 := of_decide_eq_true h1
    refine WC.skipn ?_
    refine WC.seq' ?_
    refine WC.seq ?_
    refine WL.p (by rfl) (Yl.fieldAddr fa26_1 (by rfl)) ?_
    refine WL.p (by rfl) (Yl.loadB sca3 (by rfl) hs (by repeat (first | exact List.mem_cons_self | apply List.mem_cons_of_mem)) (by rfl)) ?_
    refine WL.p (by rfl) (Yl.fieldAddr fa26_1 (by rfl)) ?_
    refine WL.p (by rfl) (Yl.loadB sca3 (by rfl) hs (by repeat (first | exact List.mem_cons_self | apply List.mem_cons_of_mem)) (by rfl)) ?_
    refine WL.p (by rfl) (Yl.nei (by rfl) (by rfl)) ?_
    refine WL.next ?_
    refine WC.condS (by rfl) (fun h2 => ?_) (fun h2 => ?_)
    ·
      replace h2 := not_eq_true h2
      replace h2 := of_decide_eq_false h2
      refine WC.seq ?_
      refine WL.p (by rfl) (Yl.assign (by rfl)) ?_
      refine WL.next ?_
      refine WC.ret ?_
      refine At.thenret ?_
      refine fin1' rfl (by rfl) ?_
      refine RetP.mk hs ?_
      simp_all [TResponse.ext_iff]
    ·
      replace h2 := not_eq_false h2
      replace h2 := of_decide_eq_true h2
      refine WC.skipn ?_
      refine WC.seq' ?_
      refine WC.seq ?_
      refine WL.p (by rfl) (Yl.fieldAddr fa26_2 (by rfl)) ?_
      refine WL.p (by rfl) (Yl.loadB sca9 (by rfl) hs (by repeat (first | exact List.mem_cons_self | apply List.mem_cons_of_mem)) (by rfl)) ?_
      refine WL.p (by rfl) (Yl.fieldAddr fa26_2 (by rfl)) ?_
      refine WL.p (by rfl) (Yl.loadB sca9 (by rfl) hs (by repeat (first | exact List.mem_cons_self | apply List.mem_cons_of_mem)) (by rfl)) ?_
      refine WL.p (by rfl) (Yl.nes (by rfl) (by rfl)) ?_
      refine WL.next ?_
      refine WC.condS (by rfl) (fun h3 => ?_) (fun h3 => ?_)
      ·
        replace h3 := not_eq_true h3
        replace h3 := of_decide_eq_false h3
        refine WC.seq ?_
        refine WL.p (by rfl) (Yl.assign (by rfl)) ?_
        refine WL.next ?_
        refine WC.ret ?_
        refine At.thenret ?_
        refine fin1' rfl (by rfl) ?_
        refine RetP.mk hs ?_
        simp_all [TResponse.ext_iff]
      ·
        replace h3 := not_eq_false h3
        replace h3 := of_decide_eq_true h3
        refine WC.skipn ?_
        refine WC.seq' ?_
        refine WC.seq ?_
        refine WL.p (by rfl) (Yl.fieldAddr fa26_3 (by rfl)) ?_
        refine WL.p (by rfl) (Yl.loadB sca3 (by rfl) hs (by repeat (first | exact List.mem_cons_self | apply List.mem_cons_of_mem)) (by rfl)) ?_
        refine WL.p (by rfl) (Yl.fieldAddr fa26_3 (by rfl)) ?_
        refine WL.p (by rfl) (Yl.loadB sca3 (by rfl) hs (by repeat (first | exact List.mem_cons_self | apply List.mem_cons_of_mem)) (by rfl)) ?_
        refine WL.p (by rfl) (Yl.nei (by rfl) (by rfl)) ?_
        refine WL.next ?_
        refine WC.condS (by rfl) (fun h4 => ?_) (fun h4 => ?_)
        ·
          replace h4 := not_eq_true h4
          replace h4 := of_decide_eq_false h4
          refine WC.seq ?_
          refine WL.p (by rfl) (Yl.assign (by rfl)) ?_
          refine WL.next ?_
          refine WC.ret ?_
          refine At.thenret ?_
          refine fin1' rfl (by rfl) ?_
          refine RetP.mk hs ?_
          simp_all [TResponse.ext_iff]
        ·
          replace h4 := not_eq_false h4
          replace h4 := of_decide_eq_true h4
          refine WC.skipn ?_
          refine WC.seq' ?_
          refine WC.seq ?_
          refine WL.p (by rfl) (Yl.fieldAddr fa26_4 (by rfl)) ?_
          refine WL.p (by rfl) (Yl.loadB sca4 (by rfl) hs (by repeat (first | exact List.mem_cons_self | apply List.mem_cons_of_mem)) (by rfl)) ?_
          refine WL.p (by rfl) (Yl.fieldAddr fa26_4 (by rfl)) ?_
          refine WL.p (by rfl) (Yl.loadB sca4 (by rfl) hs (by repeat (first | exact List.mem_cons_self | apply List.mem_cons_of_mem)) (by rfl)) ?_
          refine WL.p (by rfl) (Yl.neb bool4 (by rfl) (by rfl)) ?_
          refine WL.next ?_
          refine WC.condS (by rfl) (fun h5 => ?_) (fun h5 => ?_)
          ·
            replace h5 := not_eq_true h5
            replace h5 := beq_false h5
            refine WC.seq ?_
            refine WL.p (by rfl) (Yl.assign (by rfl)) ?_
            refine WL.next ?_
            refine WC.ret ?_
            refine At.thenret ?_
            refine fin1' rfl (by rfl) ?_
            refine RetP.mk hs ?_
            simp_all [TResponse.ext_iff]
          ·
            replace h5 := not_eq_false h5
            replace h5 := beq_true h5
            refine WC.skipn ?_
            refine WC.seq' ?_
            refine WC.seq ?_
            refine WL.p (by rfl) (Yl.fieldAddr fa26_5 (by rfl)) ?_
            refine WL.p (by rfl) (Yl.loadB sca9 (by rfl) hs (by repeat (first | exact List.mem_cons_self | apply List.mem_cons_of_mem)) (by rfl)) ?_
            refine WL.p (by rfl) (Yl.fieldAddr fa26_5 (by rfl)) ?_
            refine WL.p (by rfl) (Yl.loadB sca9 (by rfl) hs (by repeat (first | exact List.mem_cons_self | apply List.mem_cons_of_mem)) (by rfl)) ?_
            refine WL.p (by rfl) (Yl.nes (by rfl) (by rfl)) ?_
            refine WL.next ?_
            refine WC.condS (by rfl) (fun h6 => ?_) (fun h6 => ?_)
            ·
              replace h6 := not_eq_true h6
              replace h6 := of_decide_eq_false h6
              refine WC.seq ?_
              refine WL.p (by rfl) (Yl.assign (by rfl)) ?_
              refine WL.next ?_
              refine WC.ret ?_
              refine At.thenret ?_
              refine fin1' rfl (by rfl) ?_
              refine RetP.mk hs ?_
              simp_all [TResponse.ext_iff]
            ·
              replace h6 := not_eq_false h6
              replace h6 := of_decide_eq_true h6
              refine WC.skipn ?_
              refine WC.seq ?_
              refine WL.p (by rfl) (Yl.assign (by rfl)) ?_
              refine WL.next ?_
              refine WC.ret ?_
              refine fin1' rfl (by rfl) ?_
              refine RetP.mk hs ?_
              simp_all [TResponse.ext_iff]

theorem c_laws_szResponse (a : TResponse) (left : Int) (w : World) (h_a : Ph.ok w a) (hl0 : 0 ≤ left) (hl1 : left ≤ 1048576) : Calls Try.prog 19 [.agg #[I a.status, I a.kind, S a.body, I a.age, Bo a.shares, S a.policy], I left].toArray w (RetP w (I (lessN left a.size))) := by
  have hb1 := h_a.body; have hb2 := h_a.policy; simp only [Ph.ok, WfS] at hb1 hb2
  refine enterN 20 Try.func19 rfl rfl rfl ?_
  have hs := Sat.start w
  refine WC.seq ?_
  refine WL.r (by rfl) (Yr.box hs (by rfl) (by rfl)) ?_
  clear hs; rintro _ w ⟨b1, rfl, hb, hs⟩; clear hb
  refine WL.p (by rfl) (Yl.assign (by rfl)) ?_
  refine WL.next ?_
  refine WC.seq ?_
  refine WL.p (by rfl) (Yl.move (by rfl)) ?_
  refine WL.p (by rfl) (Yl.fieldAddr fa30_2 (by rfl)) ?_
  refine WL.p (by rfl) (Yl.loadB sca9 (by rfl) hs (by repeat (first | exact List.mem_cons_self | apply List.mem_cons_of_mem)) (by rfl)) ?_
  refine WL.p (by rfl) (Yl.len_str str9 (by rfl)) ?_
  refine WL.p (by rfl) (Yl.sub_ (by rfl) (by rfl) (by omega)) ?_
  refine WL.p (by rfl) (Yl.assign (by rfl)) ?_
  refine WL.next ?_
  refine WC.seq' ?_
  refine WC.seq ?_
  refine WL.p (by rfl) (Yl.move (by rfl)) ?_
  refine WL.p (by rfl) (Yl.lss (by rfl) (by rfl)) ?_
  refine WL.next ?_
  refine WC.condS (by rfl) (fun h1 => ?_) (fun h1 => ?_)
  ·
    replace h1 := of_decide_eq_true h1
    refine WC.seq ?_
    refine WL.p (by rfl) (Yl.assign (by rfl)) ?_
    refine WL.next ?_
    refine WC.ret ?_
    refine At.thenret ?_
    refine fin1' rfl (by rfl) ?_
    refine RetP.mk hs ?_
    first
      | (rw [lessN_lt (by simp only [TResponse.size]; omega)])
      | (rw [lessN_ge (by simp only [TResponse.size]; omega)]; exact congrArg I (by simp only [TResponse.size]; omega))
  ·
    replace h1 := of_decide_eq_false h1
    refine WC.skipn ?_
    refine WC.seq ?_
    refine WL.p (by rfl) (Yl.move (by rfl)) ?_
    refine WL.p (by rfl) (Yl.fieldAddr fa30_5 (by rfl)) ?_
    refine WL.p (by rfl) (Yl.loadB sca9 (by rfl) hs (by repeat (first | exact List.mem_cons_self | apply List.mem_cons_of_mem)) (by rfl)) ?_
    refine WL.p (by rfl) (Yl.len_str str9 (by rfl)) ?_
    refine WL.p (by rfl) (Yl.sub_ (by rfl) (by rfl) (by omega)) ?_
    refine WL.p (by rfl) (Yl.assign (by rfl)) ?_
    refine WL.next ?_
    refine WC.seq' ?_
    refine WC.seq ?_
    refine WL.p (by rfl) (Yl.move (by rfl)) ?_
    refine WL.p (by rfl) (Yl.lss (by rfl) (by rfl)) ?_
    refine WL.next ?_
    refine WC.condS (by rfl) (fun h2 => ?_) (fun h2 => ?_)
    ·
      replace h2 := of_decide_eq_true h2
      refine WC.seq ?_
      refine WL.p (by rfl) (Yl.assign (by rfl)) ?_
      refine WL.next ?_
      refine WC.ret ?_
      refine At.thenret ?_
      refine fin1' rfl (by rfl) ?_
      refine RetP.mk hs ?_
      first
        | (rw [lessN_lt (by simp only [TResponse.size]; omega)])
        | (rw [lessN_ge (by simp only [TResponse.size]; omega)]; exact congrArg I (by simp only [TResponse.size]; omega))
    ·
      replace h2 := of_decide_eq_false h2
      refine WC.skipn ?_
      refine WC.seq ?_
      refine WL.p (by rfl) (Yl.move (by rfl)) ?_
      refine WL.p (by rfl) (Yl.assign (by rfl)) ?_
      refine WL.next ?_
      refine WC.ret ?_
      refine fin1' rfl (by rfl) ?_
      refine RetP.mk hs ?_
      first
        | (rw [lessN_lt (by simp only [TResponse.size]; omega)])
        | (rw [lessN_ge (by simp only [TResponse.size]; omega)]; exact congrArg I (by simp only [TResponse.size]; omega))

theorem c_laws_toResponse (a : TResponse) (w : World)   : Calls Try.prog 21 [.agg #[I a.status, I a.kind, S a.body, I a.age, Bo a.shares, S a.policy]].toArray w (RetP w (.agg (Ph.enc a).toArray)) := by
  refine enterN 23 Try.func21 rfl rfl rfl ?_
  have hs := Sat.start w
  refine WC.seq ?_
  refine WL.r (by rfl) (Yr.box hs (by rfl) (by rfl)) ?_
  clear hs; rintro _ w ⟨b1, rfl, hb, hs⟩; clear hb
  refine WL.r (by rfl) (Yr.alloc hs zt26) ?_
  clear hs; rintro _ w ⟨b2, rfl, hb, hs⟩; clear hb
  refine WL.next ?_
  refine WC.seq ?_
  refine WL.r (by rfl) (Yr.alloc hs zt26) ?_
  clear hs; rintro _ w ⟨b3, rfl, hb, hs⟩; clear hb
  refine WL.next ?_
  refine WC.seq ?_
  refine WL.p (by rfl) (Yl.fieldAddr fa30_0 (by rfl)) ?_
  refine WL.p (by rfl) (Yl.loadB sca3 (by rfl) hs (by repeat (first | exact List.mem_cons_self | apply List.mem_cons_of_mem)) (by rfl)) ?_
  refine WL.p (by rfl) (Yl.fieldAddr fa26_0 (by rfl)) ?_
  refine WL.s (Yr.storeB hs (by rfl) (by rfl) (by rfl) (by repeat (first | exact Repl.here | apply Repl.there)) (by repeat (first | (apply SetAt.here; repeat (first | exact Over.nil | apply Over.cons)) | apply SetAt.there)) (by rfl) (by exact szf3)) ?_
  clear hs; intro _ w hs
  refine WL.next ?_
  refine WC.seq ?_
  refine WL.p (by rfl) (Yl.fieldAddr fa30_1 (by rfl)) ?_
  refine WL.p (by rfl) (Yl.loadB sca3 (by rfl) hs (by repeat (first | exact List.mem_cons_self | apply List.mem_cons_of_mem)) (by rfl)) ?_
  refine WL.p (by rfl) (Yl.fieldAddr fa26_1 (by rfl)) ?_
  refine WL.s (Yr.storeB hs (by rfl) (by rfl) (by rfl) (by repeat (first | exact Repl.here | apply Repl.there)) (by repeat (first | (apply SetAt.here; repeat (first | exact Over.nil | apply Over.cons)) | apply SetAt.there)) (by rfl) (by exact szf3)) ?_
  clear hs; intro _ w hs
  refine WL.next ?_
  refine WC.seq ?_
  refine WL.p (by rfl) (Yl.fieldAddr fa30_2 (by rfl)) ?_
  refine WL.p (by rfl) (Yl.loadB sca9 (by rfl) hs (by repeat (first | exact List.mem_cons_self | apply List.mem_cons_of_mem)) (by rfl)) ?_
  refine WL.p (by rfl) (Yl.fieldAddr fa26_2 (by rfl)) ?_
  refine WL.s (Yr.storeB hs (by rfl) (by rfl) (by rfl) (by repeat (first | exact Repl.here | apply Repl.there)) (by repeat (first | (apply SetAt.here; repeat (first | exact Over.nil | apply Over.cons)) | apply SetAt.there)) (by rfl) (by exact szf9)) ?_
  clear hs; intro _ w hs
  refine WL.next ?_
  refine WC.seq ?_
  refine WL.p (by rfl) (Yl.fieldAddr fa30_3 (by rfl)) ?_
  refine WL.p (by rfl) (Yl.loadB sca3 (by rfl) hs (by repeat (first | exact List.mem_cons_self | apply List.mem_cons_of_mem)) (by rfl)) ?_
  refine WL.p (by rfl) (Yl.fieldAddr fa26_3 (by rfl)) ?_
  refine WL.s (Yr.storeB hs (by rfl) (by rfl) (by rfl) (by repeat (first | exact Repl.here | apply Repl.there)) (by repeat (first | (apply SetAt.here; repeat (first | exact Over.nil | apply Over.cons)) | apply SetAt.there)) (by rfl) (by exact szf3)) ?_
  clear hs; intro _ w hs
  refine WL.next ?_
  refine WC.seq ?_
  refine WL.p (by rfl) (Yl.fieldAddr fa30_4 (by rfl)) ?_
  refine WL.p (by rfl) (Yl.loadB sca4 (by rfl) hs (by repeat (first | exact List.mem_cons_self | apply List.mem_cons_of_mem)) (by rfl)) ?_
  refine WL.p (by rfl) (Yl.fieldAddr fa26_4 (by rfl)) ?_
  refine WL.s (Yr.storeB hs (by rfl) (by rfl) (by rfl) (by repeat (first | exact Repl.here | apply Repl.there)) (by repeat (first | (apply SetAt.here; repeat (first | exact Over.nil | apply Over.cons)) | apply SetAt.there)) (by rfl) (by exact szf4)) ?_
  clear hs; intro _ w hs
  refine WL.next ?_
  refine WC.seq ?_
  refine WL.p (by rfl) (Yl.fieldAddr fa30_5 (by rfl)) ?_
  refine WL.p (by rfl) (Yl.loadB sca9 (by rfl) hs (by repeat (first | exact List.mem_cons_self | apply List.mem_cons_of_mem)) (by rfl)) ?_
  refine WL.p (by rfl) (Yl.fieldAddr fa26_5 (by rfl)) ?_
  refine WL.s (Yr.storeB hs (by rfl) (by rfl) (by rfl) (by repeat (first | exact Repl.here | apply Repl.there)) (by repeat (first | (apply SetAt.here; repeat (first | exact Over.nil | apply Over.cons)) | apply SetAt.there)) (by rfl) (by exact szf9)) ?_
  clear hs; intro _ w hs
  refine WL.next ?_
  refine WC.seq ?_
  refine WL.p (by rfl) (Yl.loadAB agg26 (by rfl) hs (by repeat (first | exact List.mem_cons_self | apply List.mem_cons_of_mem)) (by rfl) (by rfl)) ?_
  refine WL.s (Yr.storeB hs (by rfl) (by rfl) (by rfl) (by repeat (first | exact Repl.here | apply Repl.there)) (by repeat (first | (apply SetAt.here; repeat (first | exact Over.nil | apply Over.cons)) | apply SetAt.there)) (by rfl) (by exact szf26)) ?_
  clear hs; intro _ w hs
  refine WL.next ?_
  refine WC.ret ?_
  refine fin1c rfl agg26 (by rfl) hs (by repeat (first | exact List.mem_cons_self | apply List.mem_cons_of_mem)) (by rfl) ?_
  refine RetP.mk hs ?_
  rfl

theorem c_spec_EqualResponses (a : TResponse) (b : TResponse) (w : World)   : Calls Try.prog 20 [.agg #[I a.status, I a.kind, S a.body, I a.age, Bo a.shares, S a.policy], .agg #[I b.status, I b.kind, S b.body, I b.age, Bo b.shares, S b.policy]].toArray w (RetP w (Bo (decide (a = b)))) := by
  refine enterN 8 Try.func20 rfl rfl rfl ?_
  have hs := Sat.start w
  refine WC.seq ?_
  refine WL.r (by rfl) (Yr.box hs (by rfl) (by rfl)) ?_
  clear hs; rintro _ w ⟨b1, rfl, hb, hs⟩; clear hb
  refine WL.r (by rfl) (Yr.box hs (by rfl) (by rfl)) ?_
  clear hs; rintro _ w ⟨b2, rfl, hb, hs⟩; clear hb
  refine WL.p (by rfl) (Yl.assign (by rfl)) ?_
  refine WL.next ?_
  refine WC.seq ?_
  refine WL.p (by rfl) (Yl.loadAB agg26 (by rfl) hs (by repeat (first | exact List.mem_cons_self | apply List.mem_cons_of_mem)) (by rfl) (by rfl)) ?_
  refine WL.p (by rfl) (Yl.loadAB agg26 (by rfl) hs (by repeat (first | exact List.mem_cons_self | apply List.mem_cons_of_mem)) (by rfl) (by rfl)) ?_
  refine WL.p (by rfl) (Yl.eqt eqt26 (by rfl) (by rfl)) ?_
  refine WL.p (by rfl) (Yl.assign (by rfl)) ?_
  refine WL.next ?_
  refine WC.ret ?_
  refine fin1' rfl (by rfl) ?_
  refine RetP.mk hs ?_
  rfl

theorem c_impl_EqualResponses (a : TResponse) (b : TResponse) (w : World)   : Calls Try.prog 22 [.agg #[I a.status, I a.kind, S a.body, I a.age, Bo a.shares, S a.policy], .agg #[I b.status, I b.kind, S b.body, I b.age, Bo b.shares, S b.policy]].toArray w (RetP w (Bo (decide (a = b)))) := by
  refine enterN 8 Try.func22 rfl rfl rfl ?_
  have hs := Sat.start w
  refine WC.seq ?_
  refine WL.r (by rfl) (Yr.box hs (by rfl) (by rfl)) ?_
  clear hs; rintro _ w ⟨b1, rfl, hb, hs⟩; clear hb
  refine WL.r (by rfl) (Yr.box hs (by rfl) (by rfl)) ?_
  clear hs; rintro _ w ⟨b2, rfl, hb, hs⟩; clear hb
  refine WL.p (by rfl) (Yl.assign (by rfl)) ?_
  refine WL.next ?_
  refine WC.seq ?_
  refine WL.p (by rfl) (Yl.loadAB agg26 (by rfl) hs (by repeat (first | exact List.mem_cons_self | apply List.mem_cons_of_mem)) (by rfl) (by rfl)) ?_
  refine WL.p (by rfl) (Yl.loadAB agg26 (by rfl) hs (by repeat (first | exact List.mem_cons_self | apply List.mem_cons_of_mem)) (by rfl) (by rfl)) ?_
  refine WL.p (by rfl) (Yl.eqt eqt26 (by rfl) (by rfl)) ?_
  refine WL.p (by rfl) (Yl.assign (by rfl)) ?_
  refine WL.next ?_
  refine WC.ret ?_
  refine fin1' rfl (by rfl) ?_
  refine RetP.mk hs ?_
  rfl

theorem c_spec_SizeResponse (x : TResponse) (w : World)  (hb : x.body.length ≤ 1048576) : Calls Try.prog 23 [.agg #[I x.status, I x.kind, S x.body, I x.age, Bo x.shares, S x.policy]].toArray w (RetP w (I (x.body.length + 20))) := by
  refine enterN 7 Try.func23 rfl rfl rfl ?_
  have hs := Sat.start w
  refine WC.seq ?_
  refine WL.r (by rfl) (Yr.box hs (by rfl) (by rfl)) ?_
  clear hs; rintro _ w ⟨b1, rfl, hb, hs⟩; clear hb
  refine WL.p (by rfl) (Yl.assign (by rfl)) ?_
  refine WL.next ?_
  refine WC.seq ?_
  refine WL.p (by rfl) (Yl.fieldAddr fa26_2 (by rfl)) ?_
  refine WL.p (by rfl) (Yl.loadB sca9 (by rfl) hs (by repeat (first | exact List.mem_cons_self | apply List.mem_cons_of_mem)) (by rfl)) ?_
  refine WL.p (by rfl) (Yl.len_str str9 (by rfl)) ?_
  refine WL.p (by rfl) (Yl.add (by rfl) (by rfl) (by omega)) ?_
  refine WL.p (by rfl) (Yl.assign (by rfl)) ?_
  refine WL.next ?_
  refine WC.ret ?_
  refine fin1' rfl (by rfl) ?_
  refine RetP.mk hs ?_
  rfl

theorem c_impl_SizeResponse (x : TResponse) (w : World)  (hb : x.body.length ≤ 1048576) : Calls Try.prog 24 [.agg #[I x.status, I x.kind, S x.body, I x.age, Bo x.shares, S x.policy]].toArray w (RetP w (I (x.body.length + 20))) := by
  refine enterN 7 Try.func24 rfl rfl rfl ?_
  have hs := Sat.start w
  refine WC.seq ?_
  refine WL.r (by rfl) (Yr.box hs (by rfl) (by rfl)) ?_
  clear hs; rintro _ w ⟨b1, rfl, hb, hs⟩; clear hb
  refine WL.p (by rfl) (Yl.assign (by rfl)) ?_
  refine WL.next ?_
  refine WC.seq ?_
  refine WL.p (by rfl) (Yl.fieldAddr fa26_2 (by rfl)) ?_
  refine WL.p (by rfl) (Yl.loadB sca9 (by rfl) hs (by repeat (first | exact List.mem_cons_self | apply List.mem_cons_of_mem)) (by rfl)) ?_
  refine WL.p (by rfl) (Yl.len_str str9 (by rfl)) ?_
  refine WL.p (by rfl) (Yl.add (by rfl) (by rfl) (by omega)) ?_
  refine WL.p (by rfl) (Yl.assign (by rfl)) ?_
  refine WL.next ?_
  refine WC.ret ?_
  refine fin1' rfl (by rfl) ?_
  refine RetP.mk hs ?_
  rfl

theorem c_spec_FitsKind (x : TResponse) (kind : Int) (w : World)   : Calls Try.prog 25 [.agg #[I x.status, I x.kind, S x.body, I x.age, Bo x.shares, S x.policy], I kind].toArray w (RetP w (Bo (fitsKind x.kind kind))) := by
  refine enterN 18 Try.func25 rfl rfl rfl ?_
  have hs := Sat.start w
  refine WC.seq ?_
  refine WL.r (by rfl) (Yr.box hs (by rfl) (by rfl)) ?_
  clear hs; rintro _ w ⟨b1, rfl, hb, hs⟩; clear hb
  refine WL.p (by rfl) (Yl.assign (by rfl)) ?_
  refine WL.next ?_
  refine WC.seq ?_
  refine WL.p (by rfl) (Yl.fieldAddr fa26_1 (by rfl)) ?_
  refine WL.p (by rfl) (Yl.loadB sca3 (by rfl) hs (by repeat (first | exact List.mem_cons_self | apply List.mem_cons_of_mem)) (by rfl)) ?_
  refine WL.p (by rfl) (Yl.move (by rfl)) ?_
  refine WL.p (by rfl) (Yl.eqi (by rfl) (by rfl)) ?_
  refine WL.p (by rfl) (Yl.move (by rfl)) ?_
  refine WL.split (d := 9) (by rfl) (fun h1 => ?_) (fun h1 => ?_)
  ·
    replace h1 := of_decide_eq_true h1
    refine WL.skip (d := 9) (by rfl) (by rfl) (by rfl) (by rfl) ?_
    refine WL.skip (d := 9) (by rfl) (by rfl) (by rfl) (by rfl) ?_
    refine WL.skip (d := 9) (by rfl) (by rfl) (by rfl) (by rfl) ?_
    refine WL.skipU (d := 12) (by rfl) (by rfl) (by rfl) ?_
    refine WL.skipU (d := 12) (by rfl) (by rfl) (by rfl) ?_
    refine WL.skipU (d := 12) (by rfl) (by rfl) (by rfl) ?_
    refine WL.skip (d := 9) (by rfl) (by rfl) (by rfl) (by rfl) ?_
    refine WL.p (by rfl) (Yl.pickT (by rfl) (by rfl)) ?_
    refine WL.p (by rfl) (Yl.assign (by rfl)) ?_
    refine WL.next ?_
    refine WC.ret ?_
    refine fin1' rfl (by rfl) ?_
    refine RetP.mk hs ?_
    simp_all [fitsKind]
  ·
    replace h1 := of_decide_eq_false h1
    refine WL.run (d := 9) (by rfl) (by rfl) ?_
    refine WL.p (by rfl) (Yl.move (by rfl)) ?_
    refine WL.run (d := 9) (by rfl) (by rfl) ?_
    refine WL.p (by rfl) (Yl.eqi (by rfl) (by rfl)) ?_
    refine WL.run (d := 9) (by rfl) (by rfl) ?_
    refine WL.p (by rfl) (Yl.move (by rfl)) ?_
    refine WL.split (d := 12) (by rfl) (fun h2 => ?_) (fun h2 => ?_)
    ·
      replace h2 := of_decide_eq_true h2
      refine WL.run (d := 12) (by rfl) (by rfl) ?_
      refine WL.p (by rfl) (Yl.fieldAddr fa26_1 (by rfl)) ?_
      refine WL.run (d := 12) (by rfl) (by rfl) ?_
      refine WL.p (by rfl) (Yl.loadB sca3 (by rfl) hs (by repeat (first | exact List.mem_cons_self | apply List.mem_cons_of_mem)) (by rfl)) ?_
      refine WL.run (d := 12) (by rfl) (by rfl) ?_
      refine WL.p (by rfl) (Yl.eqi (by rfl) (by rfl)) ?_
      refine WL.run (d := 9) (by rfl) (by rfl) ?_
      refine WL.p (by rfl) (Yl.pickT (by rfl) (by rfl)) ?_
      refine WL.p (by rfl) (Yl.pickF (by rfl) (by rfl)) ?_
      refine WL.p (by rfl) (Yl.assign (by rfl)) ?_
      refine WL.next ?_
      refine WC.ret ?_
      refine fin1' rfl (by rfl) ?_
      refine RetP.mk hs ?_
      simp_all [fitsKind]
    ·
      replace h2 := of_decide_eq_false h2
      refine WL.skip (d := 12) (by rfl) (by rfl) (by rfl) (by rfl) ?_
      refine WL.skip (d := 12) (by rfl) (by rfl) (by rfl) (by rfl) ?_
      refine WL.skip (d := 12) (by rfl) (by rfl) (by rfl) (by rfl) ?_
      refine WL.run (d := 9) (by rfl) (by rfl) ?_
      refine WL.p (by rfl) (Yl.pickF (by rfl) (by rfl)) ?_
      refine WL.p (by rfl) (Yl.pickF (by rfl) (by rfl)) ?_
      refine WL.p (by rfl) (Yl.assign (by rfl)) ?_
      refine WL.next ?_
      refine WC.ret ?_
      refine fin1' rfl (by rfl) ?_
      refine RetP.mk hs ?_
      simp_all [fitsKind]

theorem c_impl_FitsKind (x : TResponse) (kind : Int) (w : World)   : Calls Try.prog 26 [.agg #[I x.status, I x.kind, S x.body, I x.age, Bo x.shares, S x.policy], I kind].toArray w (RetP w (Bo (fitsKind x.kind kind))) := by
  refine enterN 18 Try.func26 rfl rfl rfl ?_
  have hs := Sat.start w
  refine WC.seq ?_
  refine WL.r (by rfl) (Yr.box hs (by rfl) (by rfl)) ?_
  clear hs; rintro _ w ⟨b1, rfl, hb, hs⟩; clear hb
  refine WL.p (by rfl) (Yl.assign (by rfl)) ?_
  refine WL.next ?_
  refine WC.seq ?_
  refine WL.p (by rfl) (Yl.fieldAddr fa26_1 (by rfl)) ?_
  refine WL.p (by rfl) (Yl.loadB sca3 (by rfl) hs (by repeat (first | exact List.mem_cons_self | apply List.mem_cons_of_mem)) (by rfl)) ?_
  refine WL.p (by rfl) (Yl.move (by rfl)) ?_
  refine WL.p (by rfl) (Yl.eqi (by rfl) (by rfl)) ?_
  refine WL.p (by rfl) (Yl.move (by rfl)) ?_
  refine WL.split (d := 9) (by rfl) (fun h1 => ?_) (fun h1 => ?_)
  ·
    replace h1 := of_decide_eq_true h1
    refine WL.skip (d := 9) (by rfl) (by rfl) (by rfl) (by rfl) ?_
    refine WL.skip (d := 9) (by rfl) (by rfl) (by rfl) (by rfl) ?_
    refine WL.skip (d := 9) (by rfl) (by rfl) (by rfl) (by rfl) ?_
    refine WL.skipU (d := 12) (by rfl) (by rfl) (by rfl) ?_
    refine WL.skipU (d := 12) (by rfl) (by rfl) (by rfl) ?_
    refine WL.skipU (d := 12) (by rfl) (by rfl) (by rfl) ?_
    refine WL.skip (d := 9) (by rfl) (by rfl) (by rfl) (by rfl) ?_
    refine WL.p (by rfl) (Yl.pickT (by rfl) (by rfl)) ?_
    refine WL.p (by rfl) (Yl.assign (by rfl)) ?_
    refine WL.next ?_
    refine WC.ret ?_
    refine fin1' rfl (by rfl) ?_
    refine RetP.mk hs ?_
    simp_all [fitsKind]
  ·
    replace h1 := of_decide_eq_false h1
    refine WL.run (d := 9) (by rfl) (by rfl) ?_
    refine WL.p (by rfl) (Yl.move (by rfl)) ?_
    refine WL.run (d := 9) (by rfl) (by rfl) ?_
    refine WL.p (by rfl) (Yl.eqi (by rfl) (by rfl)) ?_
    refine WL.run (d := 9) (by rfl) (by rfl) ?_
    refine WL.p (by rfl) (Yl.move (by rfl)) ?_
    refine WL.split (d := 12) (by rfl) (fun h2 => ?_) (fun h2 => ?_)
    ·
      replace h2 := of_decide_eq_true h2
      refine WL.run (d := 12) (by rfl) (by rfl) ?_
      refine WL.p (by rfl) (Yl.fieldAddr fa26_1 (by rfl)) ?_
      refine WL.run (d := 12) (by rfl) (by rfl) ?_
      refine WL.p (by rfl) (Yl.loadB sca3 (by rfl) hs (by repeat (first | exact List.mem_cons_self | apply List.mem_cons_of_mem)) (by rfl)) ?_
      refine WL.run (d := 12) (by rfl) (by rfl) ?_
      refine WL.p (by rfl) (Yl.eqi (by rfl) (by rfl)) ?_
      refine WL.run (d := 9) (by rfl) (by rfl) ?_
      refine WL.p (by rfl) (Yl.pickT (by rfl) (by rfl)) ?_
      refine WL.p (by rfl) (Yl.pickF (by rfl) (by rfl)) ?_
      refine WL.p (by rfl) (Yl.assign (by rfl)) ?_
      refine WL.next ?_
      refine WC.ret ?_
      refine fin1' rfl (by rfl) ?_
      refine RetP.mk hs ?_
      simp_all [fitsKind]
    ·
      replace h2 := of_decide_eq_false h2
      refine WL.skip (d := 12) (by rfl) (by rfl) (by rfl) (by rfl) ?_
      refine WL.skip (d := 12) (by rfl) (by rfl) (by rfl) (by rfl) ?_
      refine WL.skip (d := 12) (by rfl) (by rfl) (by rfl) (by rfl) ?_
      refine WL.run (d := 9) (by rfl) (by rfl) ?_
      refine WL.p (by rfl) (Yl.pickF (by rfl) (by rfl)) ?_
      refine WL.p (by rfl) (Yl.pickF (by rfl) (by rfl)) ?_
      refine WL.p (by rfl) (Yl.assign (by rfl)) ?_
      refine WL.next ?_
      refine WC.ret ?_
      refine fin1' rfl (by rfl) ?_
      refine RetP.mk hs ?_
      simp_all [fitsKind]

theorem c_laws_FnExactKindName (aKind : Int) (w : World)   : Calls Try.prog 3 [I aKind].toArray w (RetP w (Bo true)) := by
  refine enterN 12 Try.func3 rfl rfl rfl ?_
  have hs := Sat.start w
  refine WC.seq ?_
  refine WL.p (by rfl) (Yl.assign (by rfl)) ?_
  refine WL.next ?_
  refine WC.seq ?_
  refine WL.p (by rfl) (Yl.move (by rfl)) ?_
  refine WL.callp hs (by rfl) (Yc.func (by rfl) fn10) (c_spec_KindName _ _) ?_
  clear hs; intro w hs
  refine WL.p (by rfl) (Yl.assign (by rfl)) ?_
  refine WL.next ?_
  refine WC.seq ?_
  refine WL.p (by rfl) (Yl.move (by rfl)) ?_
  refine WL.callp hs (by rfl) (Yc.func (by rfl) fn11) (c_impl_KindName _ _) ?_
  clear hs; intro w hs
  refine WL.p (by rfl) (Yl.assign (by rfl)) ?_
  refine WL.next ?_
  refine WC.seq' ?_
  refine WC.seq ?_
  refine WL.p (by rfl) (Yl.move (by rfl)) ?_
  refine WL.p (by rfl) (Yl.move (by rfl)) ?_
  refine WL.p (by rfl) (Yl.nes (by rfl) (by rfl)) ?_
  refine WL.next ?_
  refine WC.condS (by rfl) (fun h1 => ?_) (fun h1 => ?_)
  ·
    replace h1 := not_eq_true h1
    replace h1 := of_decide_eq_false h1
    refine WC.seq ?_
    refine WL.p (by rfl) (Yl.assign (by rfl)) ?_
    refine WL.next ?_
    refine WC.ret ?_
    refine At.thenret ?_
    refine fin1' rfl (by rfl) ?_
    refine RetP.mk hs ?_
    simp_all
  ·
    replace h1 := not_eq_false h1
    replace h1 := of_decide_eq_true h1
    refine WC.skipn ?_
    refine WC.seq ?_
    refine WL.p (by rfl) (Yl.assign (by rfl)) ?_
    refine WL.next ?_
    refine WC.ret ?_
    refine fin1' rfl (by rfl) ?_
    refine RetP.mk hs ?_
    simp_all

theorem c_laws_FnExactVerdictName (aCode : Int) (w : World)   : Calls Try.prog 4 [I aCode].toArray w (RetP w (Bo true)) := by
  refine enterN 12 Try.func4 rfl rfl rfl ?_
  have hs := Sat.start w
  refine WC.seq ?_
  refine WL.p (by rfl) (Yl.assign (by rfl)) ?_
  refine WL.next ?_
  refine WC.seq ?_
  refine WL.p (by rfl) (Yl.move (by rfl)) ?_
  refine WL.callp hs (by rfl) (Yc.func (by rfl) fn12) (c_spec_VerdictName _ _) ?_
  clear hs; intro w hs
  refine WL.p (by rfl) (Yl.assign (by rfl)) ?_
  refine WL.next ?_
  refine WC.seq ?_
  refine WL.p (by rfl) (Yl.move (by rfl)) ?_
  refine WL.callp hs (by rfl) (Yc.func (by rfl) fn13) (c_impl_VerdictName _ _) ?_
  clear hs; intro w hs
  refine WL.p (by rfl) (Yl.assign (by rfl)) ?_
  refine WL.next ?_
  refine WC.seq' ?_
  refine WC.seq ?_
  refine WL.p (by rfl) (Yl.move (by rfl)) ?_
  refine WL.p (by rfl) (Yl.move (by rfl)) ?_
  refine WL.p (by rfl) (Yl.nes (by rfl) (by rfl)) ?_
  refine WL.next ?_
  refine WC.condS (by rfl) (fun h1 => ?_) (fun h1 => ?_)
  ·
    replace h1 := not_eq_true h1
    replace h1 := of_decide_eq_false h1
    refine WC.seq ?_
    refine WL.p (by rfl) (Yl.assign (by rfl)) ?_
    refine WL.next ?_
    refine WC.ret ?_
    refine At.thenret ?_
    refine fin1' rfl (by rfl) ?_
    refine RetP.mk hs ?_
    simp_all
  ·
    replace h1 := not_eq_false h1
    replace h1 := of_decide_eq_true h1
    refine WC.skipn ?_
    refine WC.seq ?_
    refine WL.p (by rfl) (Yl.assign (by rfl)) ?_
    refine WL.next ?_
    refine WC.ret ?_
    refine fin1' rfl (by rfl) ?_
    refine RetP.mk hs ?_
    simp_all

theorem c_laws_FnExactKindOfMode (aMode : Int) (w : World)   : Calls Try.prog 5 [I aMode].toArray w (RetP w (Bo true)) := by
  refine enterN 12 Try.func5 rfl rfl rfl ?_
  have hs := Sat.start w
  refine WC.seq ?_
  refine WL.p (by rfl) (Yl.assign (by rfl)) ?_
  refine WL.next ?_
  refine WC.seq ?_
  refine WL.p (by rfl) (Yl.move (by rfl)) ?_
  refine WL.callp hs (by rfl) (Yc.func (by rfl) fn14) (c_spec_KindOfMode _ _) ?_
  clear hs; intro w hs
  refine WL.p (by rfl) (Yl.assign (by rfl)) ?_
  refine WL.next ?_
  refine WC.seq ?_
  refine WL.p (by rfl) (Yl.move (by rfl)) ?_
  refine WL.callp hs (by rfl) (Yc.func (by rfl) fn15) (c_impl_KindOfMode _ _) ?_
  clear hs; intro w hs
  refine WL.p (by rfl) (Yl.assign (by rfl)) ?_
  refine WL.next ?_
  refine WC.seq' ?_
  refine WC.seq ?_
  refine WL.p (by rfl) (Yl.move (by rfl)) ?_
  refine WL.p (by rfl) (Yl.move (by rfl)) ?_
  refine WL.p (by rfl) (Yl.nei (by rfl) (by rfl)) ?_
  refine WL.next ?_
  refine WC.condS (by rfl) (fun h1 => ?_) (fun h1 => ?_)
  ·
    replace h1 := not_eq_true h1
    replace h1 := of_decide_eq_false h1
    refine WC.seq ?_
    refine WL.p (by rfl) (Yl.assign (by rfl)) ?_
    refine WL.next ?_
    refine WC.ret ?_
    refine At.thenret ?_
    refine fin1' rfl (by rfl) ?_
    refine RetP.mk hs ?_
    simp_all
  ·
    replace h1 := not_eq_false h1
    replace h1 := of_decide_eq_true h1
    refine WC.skipn ?_
    refine WC.seq ?_
    refine WL.p (by rfl) (Yl.assign (by rfl)) ?_
    refine WL.next ?_
    refine WC.ret ?_
    refine fin1' rfl (by rfl) ?_
    refine RetP.mk hs ?_
    simp_all

theorem c_laws_FnExactNotFound  (w : World)   : Calls Try.prog 6 [].toArray w (RetP w (Bo true)) := by
  refine enterN 9 Try.func6 rfl rfl rfl ?_
  have hs := Sat.start w
  refine WC.seq ?_
  refine WL.p (by rfl) (Yl.assign (by rfl)) ?_
  refine WL.next ?_
  refine WC.seq ?_
  refine WL.callp hs (by rfl) (Yc.func (by rfl) fn16) (c_spec_NotFound _) ?_
  clear hs; intro w hs
  refine WL.r (by rfl) (Yr.alloc hs zt26) ?_
  clear hs; rintro _ w ⟨b1, rfl, hb, hs⟩; clear hb
  refine WL.s (Yr.storeB hs (by rfl) (by rfl) (by rfl) (by repeat (first | exact Repl.here | apply Repl.there)) (by repeat (first | (apply SetAt.here; repeat (first | exact Over.nil | apply Over.cons)) | apply SetAt.there)) (by rfl) (by exact szf26)) ?_
  clear hs; intro _ w hs
  refine WL.next ?_
  refine WC.seq ?_
  refine WL.callp hs (by rfl) (Yc.func (by rfl) fn17) (c_impl_NotFound _) ?_
  clear hs; intro w hs
  refine WL.r (by rfl) (Yr.alloc hs zt26) ?_
  clear hs; rintro _ w ⟨b2, rfl, hb, hs⟩; clear hb
  refine WL.s (Yr.storeB hs (by rfl) (by rfl) (by rfl) (by repeat (first | exact Repl.here | apply Repl.there)) (by repeat (first | (apply SetAt.here; repeat (first | exact Over.nil | apply Over.cons)) | apply SetAt.there)) (by rfl) (by exact szf26)) ?_
  clear hs; intro _ w hs
  refine WL.next ?_
  refine WC.seq' ?_
  refine WC.seq ?_
  refine WL.p (by rfl) (Yl.loadAB agg26 (by rfl) hs (by repeat (first | exact List.mem_cons_self | apply List.mem_cons_of_mem)) (by rfl) (by rfl)) ?_
  refine WL.p (by rfl) (Yl.loadAB agg26 (by rfl) hs (by repeat (first | exact List.mem_cons_self | apply List.mem_cons_of_mem)) (by rfl) (by rfl)) ?_
  refine WL.callp hs (by rfl) (Yc.func (by rfl) fn18) (c_laws_eqResponse _ _ _) ?_
  clear hs; intro w hs
  refine WL.p (by rfl) (Yl.not (by rfl)) ?_
  refine WL.next ?_
  refine WC.condS (by rfl) (fun h1 => ?_) (fun h1 => ?_)
  ·
    replace h1 := not_eq_true h1
    refine WC.seq ?_
    refine WL.p (by rfl) (Yl.assign (by rfl)) ?_
    refine WL.next ?_
    refine WC.ret ?_
    refine At.thenret ?_
    refine fin1' rfl (by rfl) ?_
    refine RetP.mk hs ?_
    simp_all
  ·
    replace h1 := not_eq_false h1
    refine WC.skipn ?_
    refine WC.seq ?_
    refine WL.p (by rfl) (Yl.assign (by rfl)) ?_
    refine WL.next ?_
    refine WC.ret ?_
    refine fin1' rfl (by rfl) ?_
    refine RetP.mk hs ?_
    simp_all

theorem c_laws_FnExactEqualResponses (aA : TResponse) (aB : TResponse) (w : World) (h_aA : Ph.ok w aA) (h_aB : Ph.ok w aB)  : Calls Try.prog 7 [.agg #[I aA.status, I aA.kind, S aA.body, I aA.age, Bo aA.shares, S aA.policy], .agg #[I aB.status, I aB.kind, S aB.body, I aB.age, Bo aB.shares, S aB.policy]].toArray w (RetP w (Bo true)) := by
  refine enterN 31 Try.func7 rfl rfl rfl ?_
  have hs := Sat.start w
  refine WC.seq ?_
  refine WL.r (by rfl) (Yr.box hs (by rfl) (by rfl)) ?_
  clear hs; rintro _ w ⟨b1, rfl, hb, hs⟩; clear hb
  refine WL.r (by rfl) (Yr.box hs (by rfl) (by rfl)) ?_
  clear hs; rintro _ w ⟨b2, rfl, hb, hs⟩; clear hb
  refine WL.p (by rfl) (Yl.assign (by rfl)) ?_
  refine WL.next ?_
  refine WC.seq ?_
  refine WL.p (by rfl) (Yl.assign (by rfl)) ?_
  refine WL.next ?_
  refine WC.seq ?_
  refine WL.p (by rfl) (Yl.loadAB agg30 (by rfl) hs (by repeat (first | exact List.mem_cons_self | apply List.mem_cons_of_mem)) (by rfl) (by rfl)) ?_
  refine WL.p (by rfl) (Yl.move (by rfl)) ?_
  refine WL.callp hs (by rfl) (Yc.func (by rfl) fn19) (c_laws_szResponse _ _ _ (by first | assumption | (refine Ph.old ?_ hs; assumption)) (by first | assumption | omega) (by first | assumption | omega)) ?_
  clear hs; intro w hs
  refine WL.p (by rfl) (Yl.assign (by rfl)) ?_
  refine WL.next ?_
  refine WC.seq' ?_
  refine WC.seq ?_
  refine WL.p (by rfl) (Yl.move (by rfl)) ?_
  refine WL.p (by rfl) (Yl.lss (by rfl) (by rfl)) ?_
  refine WL.next ?_
  refine WC.condS (by rfl) (fun h1 => ?_) (fun h1 => ?_)
  ·
    replace h1 := of_decide_eq_true h1
    refine WC.seq ?_
    refine WL.p (by rfl) (Yl.assign (by rfl)) ?_
    refine WL.next ?_
    refine WC.ret ?_
    refine At.thenret ?_
    refine fin1' rfl (by rfl) ?_
    refine RetP.mk hs ?_
    simp_all
  ·
    replace h1 := lessN_nn (by omega) (of_decide_eq_false h1)
    refine WC.skipn ?_
    refine WC.seq ?_
    refine WL.p (by rfl) (Yl.loadAB agg30 (by rfl) hs (by repeat (first | exact List.mem_cons_self | apply List.mem_cons_of_mem)) (by rfl) (by rfl)) ?_
    refine WL.p (by rfl) (Yl.move (by rfl)) ?_
    refine WL.callp hs (by rfl) (Yc.func (by rfl) fn19) (c_laws_szResponse _ _ _ (by first | assumption | (refine Ph.old ?_ hs; assumption)) (by first | assumption | omega) (by first | assumption | omega)) ?_
    clear hs; intro w hs
    refine WL.p (by rfl) (Yl.assign (by rfl)) ?_
    refine WL.next ?_
    refine WC.seq' ?_
    refine WC.seq ?_
    refine WL.p (by rfl) (Yl.move (by rfl)) ?_
    refine WL.p (by rfl) (Yl.lss (by rfl) (by rfl)) ?_
    refine WL.next ?_
    refine WC.condS (by rfl) (fun h2 => ?_) (fun h2 => ?_)
    ·
      replace h2 := of_decide_eq_true h2
      refine WC.seq ?_
      refine WL.p (by rfl) (Yl.assign (by rfl)) ?_
      refine WL.next ?_
      refine WC.ret ?_
      refine At.thenret ?_
      refine fin1' rfl (by rfl) ?_
      refine RetP.mk hs ?_
      simp_all
    ·
      replace h2 := lessN_nn (by omega) (of_decide_eq_false h2)
      refine WC.skipn ?_
      refine WC.quietn mixed (by kernel_rfl) hs ?_
      refine WQ.p (by rfl) (fun w hs => Yl.loadAB agg30 (by rfl) hs (by repeat (first | exact List.mem_cons_self | apply List.mem_cons_of_mem)) (by rfl) (by rfl)) ?_
      refine WQ.callp (by rfl) (fun w => Yc.func (by rfl) fn21) (fun w hs => (c_laws_toResponse _ _)) (fun _ _ hs hb => hs.ext hb) ?_
      refine WQ.p (by rfl) (fun w hs => Yl.loadAB agg30 (by rfl) hs (by repeat (first | exact List.mem_cons_self | apply List.mem_cons_of_mem)) (by rfl) (by rfl)) ?_
      refine WQ.callp (by rfl) (fun w => Yc.func (by rfl) fn21) (fun w hs => (c_laws_toResponse _ _)) (fun _ _ hs hb => hs.ext hb) ?_
      refine WQ.callp (by rfl) (fun w => Yc.func (by rfl) fn20) (fun w hs => (c_spec_EqualResponses _ _ _)) (fun _ _ hs hb => hs.ext hb) ?_
      refine WQ.p (by rfl) (fun w hs => Yl.assign (by rfl)) ?_
      refine WQ.next ?_
      clear hs; intro w hs
      refine WC.quietn mixed (by kernel_rfl) hs ?_
      refine WQ.p (by rfl) (fun w hs => Yl.loadAB agg30 (by rfl) hs (by repeat (first | exact List.mem_cons_self | apply List.mem_cons_of_mem)) (by rfl) (by rfl)) ?_
      refine WQ.callp (by rfl) (fun w => Yc.func (by rfl) fn21) (fun w hs => (c_laws_toResponse _ _)) (fun _ _ hs hb => hs.ext hb) ?_
      refine WQ.p (by rfl) (fun w hs => Yl.loadAB agg30 (by rfl) hs (by repeat (first | exact List.mem_cons_self | apply List.mem_cons_of_mem)) (by rfl) (by rfl)) ?_
      refine WQ.callp (by rfl) (fun w => Yc.func (by rfl) fn21) (fun w hs => (c_laws_toResponse _ _)) (fun _ _ hs hb => hs.ext hb) ?_
      refine WQ.callp (by rfl) (fun w => Yc.func (by rfl) fn22) (fun w hs => (c_impl_EqualResponses _ _ _)) (fun _ _ hs hb => hs.ext hb) ?_
      refine WQ.p (by rfl) (fun w hs => Yl.assign (by rfl)) ?_
      refine WQ.next ?_
      clear hs; intro w hs
      refine WC.seq' ?_
      refine WC.seq ?_
      refine WL.p (by rfl) (Yl.move (by rfl)) ?_
      refine WL.p (by rfl) (Yl.move (by rfl)) ?_
      refine WL.p (by rfl) (Yl.neb bool4 (by rfl) (by rfl)) ?_
      refine WL.next ?_
      refine WC.condS (by rfl) (fun h3 => ?_) (fun h3 => ?_)
      ·
        replace h3 := not_eq_true h3
        replace h3 := beq_false h3
        refine WC.seq ?_
        refine WL.p (by rfl) (Yl.assign (by rfl)) ?_
        refine WL.next ?_
        refine WC.ret ?_
        refine At.thenret ?_
        refine fin1' rfl (by rfl) ?_
        refine RetP.mk hs ?_
        simp_all
      ·
        replace h3 := not_eq_false h3
        replace h3 := beq_true h3
        refine WC.skipn ?_
        refine WC.seq ?_
        refine WL.p (by rfl) (Yl.assign (by rfl)) ?_
        refine WL.next ?_
        refine WC.ret ?_
        refine fin1' rfl (by rfl) ?_
        refine RetP.mk hs ?_
        simp_all

theorem c_laws_FnExactSizeResponse (aX : TResponse) (w : World) (h_aX : Ph.ok w aX)  : Calls Try.prog 8 [.agg #[I aX.status, I aX.kind, S aX.body, I aX.age, Bo aX.shares, S aX.policy]].toArray w (RetP w (Bo true)) := by
  refine enterN 20 Try.func8 rfl rfl rfl ?_
  have hs := Sat.start w
  refine WC.seq ?_
  refine WL.r (by rfl) (Yr.box hs (by rfl) (by rfl)) ?_
  clear hs; rintro _ w ⟨b1, rfl, hb, hs⟩; clear hb
  refine WL.p (by rfl) (Yl.assign (by rfl)) ?_
  refine WL.next ?_
  refine WC.seq ?_
  refine WL.p (by rfl) (Yl.assign (by rfl)) ?_
  refine WL.next ?_
  refine WC.seq ?_
  refine WL.p (by rfl) (Yl.loadAB agg30 (by rfl) hs (by repeat (first | exact List.mem_cons_self | apply List.mem_cons_of_mem)) (by rfl) (by rfl)) ?_
  refine WL.p (by rfl) (Yl.move (by rfl)) ?_
  refine WL.callp hs (by rfl) (Yc.func (by rfl) fn19) (c_laws_szResponse _ _ _ (by first | assumption | (refine Ph.old ?_ hs; assumption)) (by first | assumption | omega | (simp only [TResponse.size] at *; omega)) (by first | assumption | omega | (simp only [TResponse.size] at *; omega))) ?_
  clear hs; intro w hs
  refine WL.p (by rfl) (Yl.assign (by rfl)) ?_
  refine WL.next ?_
  refine WC.seq' ?_
  refine WC.seq ?_
  refine WL.p (by rfl) (Yl.move (by rfl)) ?_
  refine WL.p (by rfl) (Yl.lss (by rfl) (by rfl)) ?_
  refine WL.next ?_
  refine WC.condS (by rfl) (fun h1 => ?_) (fun h1 => ?_)
  ·
    replace h1 := of_decide_eq_true h1
    refine WC.seq ?_
    refine WL.p (by rfl) (Yl.assign (by rfl)) ?_
    refine WL.next ?_
    refine WC.ret ?_
    refine At.thenret ?_
    refine fin1' rfl (by rfl) ?_
    refine RetP.mk hs ?_
    simp_all
  ·
    replace h1 := lessN_nn (by omega) (of_decide_eq_false h1)
    refine WC.skipn ?_
    refine WC.seq ?_
    refine WL.p (by rfl) (Yl.loadAB agg30 (by rfl) hs (by repeat (first | exact List.mem_cons_self | apply List.mem_cons_of_mem)) (by rfl) (by rfl)) ?_
    refine WL.callp hs (by rfl) (Yc.func (by rfl) fn21) (c_laws_toResponse _ _) ?_
    clear hs; intro w hs
    refine WL.callp hs (by rfl) (Yc.func (by rfl) fn23) (c_spec_SizeResponse _ _ (by first | assumption | omega | (simp only [TResponse.size] at *; omega))) ?_
    clear hs; intro w hs
    refine WL.p (by rfl) (Yl.assign (by rfl)) ?_
    refine WL.next ?_
    refine WC.seq ?_
    refine WL.p (by rfl) (Yl.loadAB agg30 (by rfl) hs (by repeat (first | exact List.mem_cons_self | apply List.mem_cons_of_mem)) (by rfl) (by rfl)) ?_
    refine WL.callp hs (by rfl) (Yc.func (by rfl) fn21) (c_laws_toResponse _ _) ?_
    clear hs; intro w hs
    refine WL.callp hs (by rfl) (Yc.func (by rfl) fn24) (c_impl_SizeResponse _ _ (by first | assumption | omega | (simp only [TResponse.size] at *; omega))) ?_
    clear hs; intro w hs
    refine WL.p (by rfl) (Yl.assign (by rfl)) ?_
    refine WL.next ?_
    refine WC.seq' ?_
    refine WC.seq ?_
    refine WL.p (by rfl) (Yl.move (by rfl)) ?_
    refine WL.p (by rfl) (Yl.move (by rfl)) ?_
    refine WL.p (by rfl) (Yl.nei (by rfl) (by rfl)) ?_
    refine WL.next ?_
    refine WC.condS (by rfl) (fun h2 => ?_) (fun h2 => ?_)
    ·
      replace h2 := not_eq_true h2
      replace h2 := of_decide_eq_false h2
      refine WC.seq ?_
      refine WL.p (by rfl) (Yl.assign (by rfl)) ?_
      refine WL.next ?_
      refine WC.ret ?_
      refine At.thenret ?_
      refine fin1' rfl (by rfl) ?_
      refine RetP.mk hs ?_
      simp_all
    ·
      replace h2 := not_eq_false h2
      replace h2 := of_decide_eq_true h2
      refine WC.skipn ?_
      refine WC.seq ?_
      refine WL.p (by rfl) (Yl.assign (by rfl)) ?_
      refine WL.next ?_
      refine WC.ret ?_
      refine fin1' rfl (by rfl) ?_
      refine RetP.mk hs ?_
      simp_all

theorem c_laws_FnExactFitsKind (aX : TResponse) (aKind : Int) (w : World) (h_aX : Ph.ok w aX)  : Calls Try.prog 9 [.agg #[I aX.status, I aX.kind, S aX.body, I aX.age, Bo aX.shares, S aX.policy], I aKind].toArray w (RetP w (Bo true)) := by
  refine enterN 24 Try.func9 rfl rfl rfl ?_
  have hs := Sat.start w
  refine WC.seq ?_
  refine WL.r (by rfl) (Yr.box hs (by rfl) (by rfl)) ?_
  clear hs; rintro _ w ⟨b1, rfl, hb, hs⟩; clear hb
  refine WL.p (by rfl) (Yl.assign (by rfl)) ?_
  refine WL.next ?_
  refine WC.seq ?_
  refine WL.p (by rfl) (Yl.assign (by rfl)) ?_
  refine WL.next ?_
  refine WC.seq ?_
  refine WL.p (by rfl) (Yl.loadAB agg30 (by rfl) hs (by repeat (first | exact List.mem_cons_self | apply List.mem_cons_of_mem)) (by rfl) (by rfl)) ?_
  refine WL.p (by rfl) (Yl.move (by rfl)) ?_
  refine WL.callp hs (by rfl) (Yc.func (by rfl) fn19) (c_laws_szResponse _ _ _ (by first | assumption | (refine Ph.old ?_ hs; assumption)) (by first | assumption | omega) (by first | assumption | omega)) ?_
  clear hs; intro w hs
  refine WL.p (by rfl) (Yl.assign (by rfl)) ?_
  refine WL.next ?_
  refine WC.seq' ?_
  refine WC.seq ?_
  refine WL.p (by rfl) (Yl.move (by rfl)) ?_
  refine WL.p (by rfl) (Yl.lss (by rfl) (by rfl)) ?_
  refine WL.next ?_
  refine WC.condS (by rfl) (fun h1 => ?_) (fun h1 => ?_)
  ·
    replace h1 := of_decide_eq_true h1
    refine WC.seq ?_
    refine WL.p (by rfl) (Yl.assign (by rfl)) ?_
    refine WL.next ?_
    refine WC.ret ?_
    refine At.thenret ?_
    refine fin1' rfl (by rfl) ?_
    refine RetP.mk hs ?_
    simp_all
  ·
    replace h1 := lessN_nn (by omega) (of_decide_eq_false h1)
    refine WC.skipn ?_
    refine WC.seq ?_
    refine WL.p (by rfl) (Yl.loadAB agg30 (by rfl) hs (by repeat (first | exact List.mem_cons_self | apply List.mem_cons_of_mem)) (by rfl) (by rfl)) ?_
    refine WL.callp hs (by rfl) (Yc.func (by rfl) fn21) (c_laws_toResponse _ _) ?_
    clear hs; intro w hs
    refine WL.p (by rfl) (Yl.move (by rfl)) ?_
    refine WL.callp hs (by rfl) (Yc.func (by rfl) fn25) (c_spec_FitsKind _ _ _) ?_
    clear hs; intro w hs
    refine WL.p (by rfl) (Yl.assign (by rfl)) ?_
    refine WL.next ?_
    refine WC.seq ?_
    refine WL.p (by rfl) (Yl.loadAB agg30 (by rfl) hs (by repeat (first | exact List.mem_cons_self | apply List.mem_cons_of_mem)) (by rfl) (by rfl)) ?_
    refine WL.callp hs (by rfl) (Yc.func (by rfl) fn21) (c_laws_toResponse _ _) ?_
    clear hs; intro w hs
    refine WL.p (by rfl) (Yl.move (by rfl)) ?_
    refine WL.callp hs (by rfl) (Yc.func (by rfl) fn26) (c_impl_FitsKind _ _ _) ?_
    clear hs; intro w hs
    refine WL.p (by rfl) (Yl.assign (by rfl)) ?_
    refine WL.next ?_
    refine WC.seq' ?_
    refine WC.seq ?_
    refine WL.p (by rfl) (Yl.move (by rfl)) ?_
    refine WL.p (by rfl) (Yl.move (by rfl)) ?_
    refine WL.p (by rfl) (Yl.neb bool4 (by rfl) (by rfl)) ?_
    refine WL.next ?_
    refine WC.condS (by rfl) (fun h2 => ?_) (fun h2 => ?_)
    ·
      replace h2 := not_eq_true h2
      replace h2 := beq_false h2
      refine WC.seq ?_
      refine WL.p (by rfl) (Yl.assign (by rfl)) ?_
      refine WL.next ?_
      refine WC.ret ?_
      refine At.thenret ?_
      refine fin1' rfl (by rfl) ?_
      refine RetP.mk hs ?_
      simp_all
    ·
      replace h2 := not_eq_false h2
      replace h2 := beq_true h2
      refine WC.skipn ?_
      refine WC.seq ?_
      refine WL.p (by rfl) (Yl.assign (by rfl)) ?_
      refine WL.next ?_
      refine WC.ret ?_
      refine fin1' rfl (by rfl) ?_
      refine RetP.mk hs ?_
      simp_all

end Go.Sw
