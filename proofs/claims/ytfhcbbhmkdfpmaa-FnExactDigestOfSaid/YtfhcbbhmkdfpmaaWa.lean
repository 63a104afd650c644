/- Walks: what each function of the program returns, for every input. Printed by gen.py. -/
import Derived.Test.YtfhcbbhmkdfpmaaFx
set_option linter.all false
namespace Go.Sw
open Go Go.RowKit Go.Proofs

theorem c_spec_l1In (x : Int) (least : Int) (most : Int) (w : World)   : Calls Try.prog 63 [I x, I least, I most].toArray w (RetP w (Bo (inR x least most))) := by
  refine enterN 15 Try.func63 rfl rfl rfl ?_
  have hs := Sat.start w
  refine WC.seq ?_
  refine WL.p (by rfl) (Yl.assign (by rfl)) ?_
  refine WL.next ?_
  refine WC.seq ?_
  refine WL.p (by rfl) (Yl.move (by rfl)) ?_
  refine WL.p (by rfl) (Yl.move (by rfl)) ?_
  refine WL.p (by rfl) (Yl.geq (by rfl) (by rfl)) ?_
  refine WL.p (by rfl) (Yl.move (by rfl)) ?_
  refine WL.split (d := 10) (by rfl) (fun h1 => ?_) (fun h1 => ?_)
  ·
    replace h1 := of_decide_eq_true h1
    refine WL.run (d := 10) (by rfl) (by rfl) ?_
    refine WL.p (by rfl) (Yl.move (by rfl)) ?_
    refine WL.run (d := 10) (by rfl) (by rfl) ?_
    refine WL.p (by rfl) (Yl.move (by rfl)) ?_
    refine WL.run (d := 10) (by rfl) (by rfl) ?_
    refine WL.p (by rfl) (Yl.leq (by rfl) (by rfl)) ?_
    refine WL.p (by rfl) (Yl.pickT (by rfl) (by rfl)) ?_
    refine WL.p (by rfl) (Yl.assign (by rfl)) ?_
    refine WL.next ?_
    refine WC.ret ?_
    refine fin1' rfl (by rfl) ?_
    refine RetP.mk hs ?_
    simp [inR, h1]
  ·
    replace h1 := of_decide_eq_false h1
    refine WL.skip (d := 10) (by rfl) (by rfl) (by rfl) (by rfl) ?_
    refine WL.skip (d := 10) (by rfl) (by rfl) (by rfl) (by rfl) ?_
    refine WL.skip (d := 10) (by rfl) (by rfl) (by rfl) (by rfl) ?_
    refine WL.p (by rfl) (Yl.pickF (by rfl) (by rfl)) ?_
    refine WL.p (by rfl) (Yl.assign (by rfl)) ?_
    refine WL.next ?_
    refine WC.ret ?_
    refine fin1' rfl (by rfl) ?_
    refine RetP.mk hs ?_
    rw [inR_false.2 (by omega)]

theorem c_impl_InRange (n : Int) (low : Int) (high : Int) (w : World)   : Calls Try.prog 67 [I n, I low, I high].toArray w (RetP w (Bo (inR n low high))) := by
  refine enterN 15 Try.func67 rfl rfl rfl ?_
  have hs := Sat.start w
  refine WC.seq ?_
  refine WL.p (by rfl) (Yl.assign (by rfl)) ?_
  refine WL.next ?_
  refine WC.seq ?_
  refine WL.p (by rfl) (Yl.move (by rfl)) ?_
  refine WL.p (by rfl) (Yl.move (by rfl)) ?_
  refine WL.p (by rfl) (Yl.leq (by rfl) (by rfl)) ?_
  refine WL.p (by rfl) (Yl.move (by rfl)) ?_
  refine WL.split (d := 10) (by rfl) (fun h1 => ?_) (fun h1 => ?_)
  ·
    replace h1 := of_decide_eq_true h1
    refine WL.run (d := 10) (by rfl) (by rfl) ?_
    refine WL.p (by rfl) (Yl.move (by rfl)) ?_
    refine WL.run (d := 10) (by rfl) (by rfl) ?_
    refine WL.p (by rfl) (Yl.move (by rfl)) ?_
    refine WL.run (d := 10) (by rfl) (by rfl) ?_
    refine WL.p (by rfl) (Yl.leq (by rfl) (by rfl)) ?_
    refine WL.p (by rfl) (Yl.pickT (by rfl) (by rfl)) ?_
    refine WL.p (by rfl) (Yl.assign (by rfl)) ?_
    refine WL.next ?_
    refine WC.ret ?_
    refine fin1' rfl (by rfl) ?_
    refine RetP.mk hs ?_
    simp [inR, h1]
  ·
    replace h1 := of_decide_eq_false h1
    refine WL.skip (d := 10) (by rfl) (by rfl) (by rfl) (by rfl) ?_
    refine WL.skip (d := 10) (by rfl) (by rfl) (by rfl) (by rfl) ?_
    refine WL.skip (d := 10) (by rfl) (by rfl) (by rfl) (by rfl) ?_
    refine WL.p (by rfl) (Yl.pickF (by rfl) (by rfl)) ?_
    refine WL.p (by rfl) (Yl.assign (by rfl)) ?_
    refine WL.next ?_
    refine WC.ret ?_
    refine fin1' rfl (by rfl) ?_
    refine RetP.mk hs ?_
    rw [inR_false.2 (by omega)]

theorem c_spec_IsName (s : Str) (w : World) (h_s : Ph.ok w s)  : Calls Try.prog 65 [S s].toArray w (RetP w (Bo (isName s))) := by
  have hw : s.length ≤ 9223372036854775807 := h_s
  refine enterN 23 Try.func65 rfl rfl rfl ?_
  have hs := Sat.start w
  refine WC.seq ?_
  refine WL.p (by rfl) (Yl.assign (by rfl)) ?_
  refine WL.next ?_
  refine WC.seq' ?_
  refine WC.seq ?_
  refine WL.p (by rfl) (Yl.assign (by rfl)) ?_
  refine WL.next ?_
  refine WC.block ?_
  refine WC.loopC (ι := Nat) (fun k => s.length - k) (fun k => [(3, I (k : Int))]) (fun _ => []) (fun k => s.all lower = (s.drop k).all lower) [(0, _)] 0 (hs) ⟨by rfl, trivial⟩ ⟨by rfl, trivial⟩ ?_ ?_
  ·
    simp
  clear hs; rintro k w hJ hs
  simp only [List.nil_append] at hs
  refine WC.seq' ?_
  refine WC.seq ?_
  refine WL.p (by rfl) (Yl.move (by rfl)) ?_
  refine WL.p (by rfl) (Yl.move (by rfl)) ?_
  refine WL.p (by rfl) (Yl.len_str str9 (by rfl)) ?_
  refine WL.p (by rfl) (Yl.lss (by rfl) (by rfl)) ?_
  refine WL.next ?_
  refine WC.condS (by rfl) (fun h1 => ?_) (fun h1 => ?_)
  ·
    replace h1 := of_decide_eq_true h1
    obtain ⟨d, hd⟩ := exists_get (l := s) (k := k) (by omega)
    rw [drop_cons hd] at hJ
    refine WC.skipn ?_
    refine WC.seq' ?_
    refine WC.block ?_
    refine WC.seq ?_
    refine WL.p (by rfl) (Yl.move (by rfl)) ?_
    refine WL.p (by rfl) (Yl.move (by rfl)) ?_
    refine WL.p (by rfl) (Yl.index str9 (by rfl) (by rfl) (by rfl) (by assumption)) ?_
    refine WL.p (by rfl) (Yl.lss (by rfl) (by rfl)) ?_
    refine WL.p (by rfl) (Yl.move (by rfl)) ?_
    refine WL.split (d := 14) (by rfl) (fun h2 => ?_) (fun h2 => ?_)
    ·
      replace h2 := of_decide_eq_true h2
      refine WL.skip (d := 14) (by rfl) (by rfl) (by rfl) (by rfl) ?_
      refine WL.skip (d := 14) (by rfl) (by rfl) (by rfl) (by rfl) ?_
      refine WL.skip (d := 14) (by rfl) (by rfl) (by rfl) (by rfl) ?_
      refine WL.skip (d := 14) (by rfl) (by rfl) (by rfl) (by rfl) ?_
      refine WL.p (by rfl) (Yl.pickT (by rfl) (by rfl)) ?_
      refine WL.next ?_
      refine WC.condT (by rfl) ?_
      refine WC.seq ?_
      refine WL.p (by rfl) (Yl.assign (by rfl)) ?_
      refine WL.next ?_
      refine WC.ret ?_
      refine At.blockret ?_
      refine At.thenret ?_
      refine At.thenret ?_
      refine At.blockret ?_
      refine At.thenret ?_
      refine fin1' rfl (by rfl) ?_
      refine RetP.mk hs ?_
      first
        | (simp [isName, hJ, lower]; done)
        | (simp [isName, hJ, lower]; omega)
        | simp_all [isName, hJ, lower]
    ·
      replace h2 := of_decide_eq_false h2
      refine WL.run (d := 14) (by rfl) (by rfl) ?_
      refine WL.p (by rfl) (Yl.move (by rfl)) ?_
      refine WL.run (d := 14) (by rfl) (by rfl) ?_
      refine WL.p (by rfl) (Yl.move (by rfl)) ?_
      refine WL.run (d := 14) (by rfl) (by rfl) ?_
      refine WL.p (by rfl) (Yl.index str9 (by rfl) (by rfl) (by rfl) (by assumption)) ?_
      refine WL.run (d := 14) (by rfl) (by rfl) ?_
      refine WL.p (by rfl) (Yl.gtr (by rfl) (by rfl)) ?_
      refine WL.p (by rfl) (Yl.pickF (by rfl) (by rfl)) ?_
      refine WL.next ?_
      refine WC.condS (by rfl) (fun h3 => ?_) (fun h3 => ?_)
      ·
        replace h3 := of_decide_eq_true h3
        refine WC.seq ?_
        refine WL.p (by rfl) (Yl.assign (by rfl)) ?_
        refine WL.next ?_
        refine WC.ret ?_
        refine At.blockret ?_
        refine At.thenret ?_
        refine At.thenret ?_
        refine At.blockret ?_
        refine At.thenret ?_
        refine fin1' rfl (by rfl) ?_
        refine RetP.mk hs ?_
        first
          | (simp [isName, hJ, lower]; done)
          | (simp [isName, hJ, lower]; omega)
          | simp_all [isName, hJ, lower]
      ·
        replace h3 := of_decide_eq_false h3
        refine WC.skip ?_
        refine At.blocknormal ?_
        refine At.then_ ?_
        refine WC.region ?_
        refine WL.p (by rfl) (Yl.move (by rfl)) ?_
        refine WL.p (by rfl) (Yl.add (by rfl) (by rfl) (by omega)) ?_
        refine WL.p (by rfl) (Yl.assign (by rfl)) ?_
        refine WL.nil ?_
        refine At.roundC (k + 1) (hs.only (by repeat (first | exact Sel.nil | (apply Sel.cons; (repeat (first | exact Ext.here | apply Ext.there)))))) ⟨by rfl, trivial⟩ ⟨by rfl, trivial⟩ ?_ ?_
        ·
          omega
        ·
          rw [hJ]; simp [lower]; omega
  ·
    replace h1 := of_decide_eq_false h1
    rw [drop_out (l := s) (by omega)] at hJ
    refine WC.exit ?_
    refine At.thenexit ?_
    refine At.thenexit ?_
    refine At.blockexit ?_
    refine At.then_ ?_
    refine WC.seq ?_
    refine WL.p (by rfl) (Yl.move (by rfl)) ?_
    refine WL.p (by rfl) (Yl.len_str str9 (by rfl)) ?_
    refine WL.callp hs (by rfl) (Yc.func (by rfl) fn63) (c_spec_l1In _ _ _ _) ?_
    clear hs; intro w hs
    refine WL.p (by rfl) (Yl.assign (by rfl)) ?_
    refine WL.next ?_
    refine WC.ret ?_
    refine fin1' rfl (by rfl) ?_
    refine RetP.mk hs ?_
    first
      | (simp [isName, hJ, lower]; done)
      | (simp [isName, hJ, lower]; omega)
      | simp_all [isName, hJ, lower]

theorem c_impl_IsName (s : Str) (w : World) (h_s : Ph.ok w s)  : Calls Try.prog 69 [S s].toArray w (RetP w (Bo (isName s))) := by
  have hw : s.length ≤ 9223372036854775807 := h_s
  refine enterN 23 Try.func69 rfl rfl rfl ?_
  have hs := Sat.start w
  refine WC.seq ?_
  refine WL.p (by rfl) (Yl.assign (by rfl)) ?_
  refine WL.next ?_
  refine WC.seq' ?_
  refine WC.seq ?_
  refine WL.p (by rfl) (Yl.assign (by rfl)) ?_
  refine WL.next ?_
  refine WC.block ?_
  refine WC.loopC (ι := Nat) (fun k => s.length - k) (fun k => [(3, I (k : Int))]) (fun _ => []) (fun k => s.all lower = (s.drop k).all lower) [(0, _)] 0 (hs) ⟨by rfl, trivial⟩ ⟨by rfl, trivial⟩ ?_ ?_
  ·
    simp
  clear hs; rintro k w hJ hs
  simp only [List.nil_append] at hs
  refine WC.seq' ?_
  refine WC.seq ?_
  refine WL.p (by rfl) (Yl.move (by rfl)) ?_
  refine WL.p (by rfl) (Yl.move (by rfl)) ?_
  refine WL.p (by rfl) (Yl.len_str str9 (by rfl)) ?_
  refine WL.p (by rfl) (Yl.lss (by rfl) (by rfl)) ?_
  refine WL.next ?_
  refine WC.condS (by rfl) (fun h1 => ?_) (fun h1 => ?_)
  ·
    replace h1 := of_decide_eq_true h1
    obtain ⟨d, hd⟩ := exists_get (l := s) (k := k) (by omega)
    rw [drop_cons hd] at hJ
    refine WC.skipn ?_
    refine WC.seq' ?_
    refine WC.block ?_
    refine WC.seq ?_
    refine WL.p (by rfl) (Yl.move (by rfl)) ?_
    refine WL.p (by rfl) (Yl.move (by rfl)) ?_
    refine WL.p (by rfl) (Yl.index str9 (by rfl) (by rfl) (by rfl) (by assumption)) ?_
    refine WL.p (by rfl) (Yl.lss (by rfl) (by rfl)) ?_
    refine WL.p (by rfl) (Yl.move (by rfl)) ?_
    refine WL.split (d := 14) (by rfl) (fun h2 => ?_) (fun h2 => ?_)
    ·
      replace h2 := of_decide_eq_true h2
      refine WL.skip (d := 14) (by rfl) (by rfl) (by rfl) (by rfl) ?_
      refine WL.skip (d := 14) (by rfl) (by rfl) (by rfl) (by rfl) ?_
      refine WL.skip (d := 14) (by rfl) (by rfl) (by rfl) (by rfl) ?_
      refine WL.skip (d := 14) (by rfl) (by rfl) (by rfl) (by rfl) ?_
      refine WL.p (by rfl) (Yl.pickT (by rfl) (by rfl)) ?_
      refine WL.next ?_
      refine WC.condT (by rfl) ?_
      refine WC.seq ?_
      refine WL.p (by rfl) (Yl.assign (by rfl)) ?_
      refine WL.next ?_
      refine WC.ret ?_
      refine At.blockret ?_
      refine At.thenret ?_
      refine At.thenret ?_
      refine At.blockret ?_
      refine At.thenret ?_
      refine fin1' rfl (by rfl) ?_
      refine RetP.mk hs ?_
      first
        | (simp [isName, hJ, lower]; done)
        | (simp [isName, hJ, lower]; omega)
        | simp_all [isName, hJ, lower]
    ·
      replace h2 := of_decide_eq_false h2
      refine WL.run (d := 14) (by rfl) (by rfl) ?_
      refine WL.p (by rfl) (Yl.move (by rfl)) ?_
      refine WL.run (d := 14) (by rfl) (by rfl) ?_
      refine WL.p (by rfl) (Yl.move (by rfl)) ?_
      refine WL.run (d := 14) (by rfl) (by rfl) ?_
      refine WL.p (by rfl) (Yl.index str9 (by rfl) (by rfl) (by rfl) (by assumption)) ?_
      refine WL.run (d := 14) (by rfl) (by rfl) ?_
      refine WL.p (by rfl) (Yl.gtr (by rfl) (by rfl)) ?_
      refine WL.p (by rfl) (Yl.pickF (by rfl) (by rfl)) ?_
      refine WL.next ?_
      refine WC.condS (by rfl) (fun h3 => ?_) (fun h3 => ?_)
      ·
        replace h3 := of_decide_eq_true h3
        refine WC.seq ?_
        refine WL.p (by rfl) (Yl.assign (by rfl)) ?_
        refine WL.next ?_
        refine WC.ret ?_
        refine At.blockret ?_
        refine At.thenret ?_
        refine At.thenret ?_
        refine At.blockret ?_
        refine At.thenret ?_
        refine fin1' rfl (by rfl) ?_
        refine RetP.mk hs ?_
        first
          | (simp [isName, hJ, lower]; done)
          | (simp [isName, hJ, lower]; omega)
          | simp_all [isName, hJ, lower]
      ·
        replace h3 := of_decide_eq_false h3
        refine WC.skip ?_
        refine At.blocknormal ?_
        refine At.then_ ?_
        refine WC.region ?_
        refine WL.p (by rfl) (Yl.move (by rfl)) ?_
        refine WL.p (by rfl) (Yl.add (by rfl) (by rfl) (by omega)) ?_
        refine WL.p (by rfl) (Yl.assign (by rfl)) ?_
        refine WL.nil ?_
        refine At.roundC (k + 1) (hs.only (by repeat (first | exact Sel.nil | (apply Sel.cons; (repeat (first | exact Ext.here | apply Ext.there)))))) ⟨by rfl, trivial⟩ ⟨by rfl, trivial⟩ ?_ ?_
        ·
          omega
        ·
          rw [hJ]; simp [lower]; omega
  ·
    replace h1 := of_decide_eq_false h1
    rw [drop_out (l := s) (by omega)] at hJ
    refine WC.exit ?_
    refine At.thenexit ?_
    refine At.thenexit ?_
    refine At.blockexit ?_
    refine At.then_ ?_
    refine WC.seq ?_
    refine WL.p (by rfl) (Yl.move (by rfl)) ?_
    refine WL.p (by rfl) (Yl.len_str str9 (by rfl)) ?_
    refine WL.callp hs (by rfl) (Yc.func (by rfl) fn67) (c_impl_InRange _ _ _ _) ?_
    clear hs; intro w hs
    refine WL.p (by rfl) (Yl.assign (by rfl)) ?_
    refine WL.next ?_
    refine WC.ret ?_
    refine fin1' rfl (by rfl) ?_
    refine RetP.mk hs ?_
    first
      | (simp [isName, hJ, lower]; done)
      | (simp [isName, hJ, lower]; omega)
      | simp_all [isName, hJ, lower]

theorem c_spec_IsValue (s : Str) (w : World) (h_s : Ph.ok w s)  : Calls Try.prog 66 [S s].toArray w (RetP w (Bo (isValue s))) := by
  have hw : s.length ≤ 9223372036854775807 := h_s
  refine enterN 41 Try.func66 rfl rfl rfl ?_
  have hs := Sat.start w
  refine WC.seq ?_
  refine WL.p (by rfl) (Yl.assign (by rfl)) ?_
  refine WL.next ?_
  refine WC.seq' ?_
  refine WC.seq ?_
  refine WL.p (by rfl) (Yl.assign (by rfl)) ?_
  refine WL.next ?_
  refine WC.block ?_
  refine WC.loopC (ι := Nat) (fun k => s.length - k) (fun k => [(3, I (k : Int))]) (fun _ => []) (fun k => s.all valueByte = (s.drop k).all valueByte) [(0, _)] 0 (hs) ⟨by rfl, trivial⟩ ⟨by rfl, trivial⟩ ?_ ?_
  ·
    simp
  clear hs; rintro k w hJ hs
  simp only [List.nil_append] at hs
  refine WC.seq' ?_
  refine WC.seq ?_
  refine WL.p (by rfl) (Yl.move (by rfl)) ?_
  refine WL.p (by rfl) (Yl.move (by rfl)) ?_
  refine WL.p (by rfl) (Yl.len_str str9 (by rfl)) ?_
  refine WL.p (by rfl) (Yl.lss (by rfl) (by rfl)) ?_
  refine WL.next ?_
  refine WC.condS (by rfl) (fun h1 => ?_) (fun h1 => ?_)
  ·
    replace h1 := of_decide_eq_true h1
    obtain ⟨d, hd⟩ := exists_get (l := s) (k := k) (by omega)
    rw [drop_cons hd] at hJ
    refine WC.skipn ?_
    refine WC.seq' ?_
    refine WC.block ?_
    refine WC.seq ?_
    refine WL.p (by rfl) (Yl.move (by rfl)) ?_
    refine WL.p (by rfl) (Yl.move (by rfl)) ?_
    refine WL.p (by rfl) (Yl.index str9 (by rfl) (by rfl) (by rfl) (by assumption)) ?_
    refine WL.p (by rfl) (Yl.lss (by rfl) (by rfl)) ?_
    refine WL.p (by rfl) (Yl.move (by rfl)) ?_
    refine WL.split (d := 14) (by rfl) (fun h2 => ?_) (fun h2 => ?_)
    ·
      replace h2 := of_decide_eq_true h2
      refine WL.skip (d := 14) (by rfl) (by rfl) (by rfl) (by rfl) ?_
      refine WL.skip (d := 14) (by rfl) (by rfl) (by rfl) (by rfl) ?_
      refine WL.skip (d := 14) (by rfl) (by rfl) (by rfl) (by rfl) ?_
      refine WL.skip (d := 14) (by rfl) (by rfl) (by rfl) (by rfl) ?_
      refine WL.p (by rfl) (Yl.pickT (by rfl) (by rfl)) ?_
      refine WL.p (by rfl) (Yl.move (by rfl)) ?_
      refine WL.run (d := 20) (by rfl) (by rfl) ?_
      refine WL.p (by rfl) (Yl.move (by rfl)) ?_
      refine WL.run (d := 20) (by rfl) (by rfl) ?_
      refine WL.p (by rfl) (Yl.move (by rfl)) ?_
      refine WL.run (d := 20) (by rfl) (by rfl) ?_
      refine WL.p (by rfl) (Yl.index str9 (by rfl) (by rfl) (by rfl) (by assumption)) ?_
      refine WL.run (d := 20) (by rfl) (by rfl) ?_
      refine WL.p (by rfl) (Yl.lss (by rfl) (by rfl)) ?_
      refine WL.run (d := 20) (by rfl) (by rfl) ?_
      refine WL.p (by rfl) (Yl.move (by rfl)) ?_
      refine WL.split (d := 25) (by rfl) (fun h3 => ?_) (fun h3 => ?_)
      ·
        replace h3 := of_decide_eq_true h3
        refine WL.skip (d := 25) (by rfl) (by rfl) (by rfl) (by rfl) ?_
        refine WL.skip (d := 25) (by rfl) (by rfl) (by rfl) (by rfl) ?_
        refine WL.skip (d := 25) (by rfl) (by rfl) (by rfl) (by rfl) ?_
        refine WL.skip (d := 25) (by rfl) (by rfl) (by rfl) (by rfl) ?_
        refine WL.run (d := 20) (by rfl) (by rfl) ?_
        refine WL.p (by rfl) (Yl.pickT (by rfl) (by rfl)) ?_
        refine WL.p (by rfl) (Yl.pickT (by rfl) (by rfl)) ?_
        refine WL.p (by rfl) (Yl.move (by rfl)) ?_
        refine WL.run (d := 32) (by rfl) (by rfl) ?_
        refine WL.p (by rfl) (Yl.move (by rfl)) ?_
        refine WL.run (d := 32) (by rfl) (by rfl) ?_
        refine WL.p (by rfl) (Yl.move (by rfl)) ?_
        refine WL.run (d := 32) (by rfl) (by rfl) ?_
        refine WL.p (by rfl) (Yl.index str9 (by rfl) (by rfl) (by rfl) (by assumption)) ?_
        refine WL.run (d := 32) (by rfl) (by rfl) ?_
        refine WL.p (by rfl) (Yl.nei (by rfl) (by rfl)) ?_
        refine WL.p (by rfl) (Yl.pickT (by rfl) (by rfl)) ?_
        refine WL.next ?_
        refine WC.condS (by rfl) (fun h4 => ?_) (fun h4 => ?_)
        ·
          replace h4 := not_eq_true h4
          replace h4 := of_decide_eq_false h4
          refine WC.seq ?_
          refine WL.p (by rfl) (Yl.assign (by rfl)) ?_
          refine WL.next ?_
          refine WC.ret ?_
          refine At.blockret ?_
          refine At.thenret ?_
          refine At.thenret ?_
          refine At.blockret ?_
          refine At.thenret ?_
          refine fin1' rfl (by rfl) ?_
          refine RetP.mk hs ?_
          first
            | (simp [isValue, hJ, valueByte, lower, digit]; done)
            | (simp [isValue, hJ, valueByte, lower, digit]; omega)
            | simp_all [isValue, hJ, valueByte, lower, digit]
        ·
          replace h4 := not_eq_false h4
          replace h4 := of_decide_eq_true h4
          refine WC.skip ?_
          refine At.blocknormal ?_
          refine At.then_ ?_
          refine WC.region ?_
          refine WL.p (by rfl) (Yl.move (by rfl)) ?_
          refine WL.p (by rfl) (Yl.add (by rfl) (by rfl) (by omega)) ?_
          refine WL.p (by rfl) (Yl.assign (by rfl)) ?_
          refine WL.nil ?_
          refine At.roundC (k + 1) (hs.only (by repeat (first | exact Sel.nil | (apply Sel.cons; (repeat (first | exact Ext.here | apply Ext.there)))))) ⟨by rfl, trivial⟩ ⟨by rfl, trivial⟩ ?_ ?_
          ·
            omega
          ·
            rw [hJ]; simp [valueByte, lower, digit]; omega
      ·
        replace h3 := of_decide_eq_false h3
        refine WL.run (d := 25) (by rfl) (by rfl) ?_
        refine WL.p (by rfl) (Yl.move (by rfl)) ?_
        refine WL.run (d := 25) (by rfl) (by rfl) ?_
        refine WL.p (by rfl) (Yl.move (by rfl)) ?_
        refine WL.run (d := 25) (by rfl) (by rfl) ?_
        refine WL.p (by rfl) (Yl.index str9 (by rfl) (by rfl) (by rfl) (by assumption)) ?_
        refine WL.run (d := 25) (by rfl) (by rfl) ?_
        refine WL.p (by rfl) (Yl.gtr (by rfl) (by rfl)) ?_
        refine WL.run (d := 20) (by rfl) (by rfl) ?_
        refine WL.p (by rfl) (Yl.pickF (by rfl) (by rfl)) ?_
        refine WL.p (by rfl) (Yl.pickT (by rfl) (by rfl)) ?_
        refine WL.p (by rfl) (Yl.move (by rfl)) ?_
        refine WL.split (d := 32) (by rfl) (fun h4 => ?_) (fun h4 => ?_)
        ·
          replace h4 := of_decide_eq_true h4
          refine WL.run (d := 32) (by rfl) (by rfl) ?_
          refine WL.p (by rfl) (Yl.move (by rfl)) ?_
          refine WL.run (d := 32) (by rfl) (by rfl) ?_
          refine WL.p (by rfl) (Yl.move (by rfl)) ?_
          refine WL.run (d := 32) (by rfl) (by rfl) ?_
          refine WL.p (by rfl) (Yl.index str9 (by rfl) (by rfl) (by rfl) (by assumption)) ?_
          refine WL.run (d := 32) (by rfl) (by rfl) ?_
          refine WL.p (by rfl) (Yl.nei (by rfl) (by rfl)) ?_
          refine WL.p (by rfl) (Yl.pickT (by rfl) (by rfl)) ?_
          refine WL.next ?_
          refine WC.condS (by rfl) (fun h5 => ?_) (fun h5 => ?_)
          ·
            replace h5 := not_eq_true h5
            replace h5 := of_decide_eq_false h5
            refine WC.seq ?_
            refine WL.p (by rfl) (Yl.assign (by rfl)) ?_
            refine WL.next ?_
            refine WC.ret ?_
            refine At.blockret ?_
            refine At.thenret ?_
            refine At.thenret ?_
            refine At.blockret ?_
            refine At.thenret ?_
            refine fin1' rfl (by rfl) ?_
            refine RetP.mk hs ?_
            first
              | (simp [isValue, hJ, valueByte, lower, digit]; done)
              | (simp [isValue, hJ, valueByte, lower, digit]; omega)
              | simp_all [isValue, hJ, valueByte, lower, digit]
          ·
            replace h5 := not_eq_false h5
            replace h5 := of_decide_eq_true h5
            refine WC.skip ?_
            refine At.blocknormal ?_
            refine At.then_ ?_
            refine WC.region ?_
            refine WL.p (by rfl) (Yl.move (by rfl)) ?_
            refine WL.p (by rfl) (Yl.add (by rfl) (by rfl) (by omega)) ?_
            refine WL.p (by rfl) (Yl.assign (by rfl)) ?_
            refine WL.nil ?_
            refine At.roundC (k + 1) (hs.only (by repeat (first | exact Sel.nil | (apply Sel.cons; (repeat (first | exact Ext.here | apply Ext.there)))))) ⟨by rfl, trivial⟩ ⟨by rfl, trivial⟩ ?_ ?_
            ·
              omega
            ·
              rw [hJ]; simp [valueByte, lower, digit]; omega
        ·
          replace h4 := of_decide_eq_false h4
          refine WL.skip (d := 32) (by rfl) (by rfl) (by rfl) (by rfl) ?_
          refine WL.skip (d := 32) (by rfl) (by rfl) (by rfl) (by rfl) ?_
          refine WL.skip (d := 32) (by rfl) (by rfl) (by rfl) (by rfl) ?_
          refine WL.skip (d := 32) (by rfl) (by rfl) (by rfl) (by rfl) ?_
          refine WL.p (by rfl) (Yl.pickF (by rfl) (by rfl)) ?_
          refine WL.next ?_
          refine WC.condF (by rfl) ?_
          refine WC.skip ?_
          refine At.blocknormal ?_
          refine At.then_ ?_
          refine WC.region ?_
          refine WL.p (by rfl) (Yl.move (by rfl)) ?_
          refine WL.p (by rfl) (Yl.add (by rfl) (by rfl) (by omega)) ?_
          refine WL.p (by rfl) (Yl.assign (by rfl)) ?_
          refine WL.nil ?_
          refine At.roundC (k + 1) (hs.only (by repeat (first | exact Sel.nil | (apply Sel.cons; (repeat (first | exact Ext.here | apply Ext.there)))))) ⟨by rfl, trivial⟩ ⟨by rfl, trivial⟩ ?_ ?_
          ·
            omega
          ·
            rw [hJ]; simp [valueByte, lower, digit]; omega
    ·
      replace h2 := of_decide_eq_false h2
      refine WL.run (d := 14) (by rfl) (by rfl) ?_
      refine WL.p (by rfl) (Yl.move (by rfl)) ?_
      refine WL.run (d := 14) (by rfl) (by rfl) ?_
      refine WL.p (by rfl) (Yl.move (by rfl)) ?_
      refine WL.run (d := 14) (by rfl) (by rfl) ?_
      refine WL.p (by rfl) (Yl.index str9 (by rfl) (by rfl) (by rfl) (by assumption)) ?_
      refine WL.run (d := 14) (by rfl) (by rfl) ?_
      refine WL.p (by rfl) (Yl.gtr (by rfl) (by rfl)) ?_
      refine WL.p (by rfl) (Yl.pickF (by rfl) (by rfl)) ?_
      refine WL.p (by rfl) (Yl.move (by rfl)) ?_
      refine WL.split (d := 20) (by rfl) (fun h3 => ?_) (fun h3 => ?_)
      ·
        replace h3 := of_decide_eq_true h3
        refine WL.run (d := 20) (by rfl) (by rfl) ?_
        refine WL.p (by rfl) (Yl.move (by rfl)) ?_
        refine WL.run (d := 20) (by rfl) (by rfl) ?_
        refine WL.p (by rfl) (Yl.move (by rfl)) ?_
        refine WL.run (d := 20) (by rfl) (by rfl) ?_
        refine WL.p (by rfl) (Yl.index str9 (by rfl) (by rfl) (by rfl) (by assumption)) ?_
        refine WL.run (d := 20) (by rfl) (by rfl) ?_
        refine WL.p (by rfl) (Yl.lss (by rfl) (by rfl)) ?_
        refine WL.run (d := 20) (by rfl) (by rfl) ?_
        refine WL.p (by rfl) (Yl.move (by rfl)) ?_
        refine WL.split (d := 25) (by rfl) (fun h4 => ?_) (fun h4 => ?_)
        ·
          replace h4 := of_decide_eq_true h4
          refine WL.skip (d := 25) (by rfl) (by rfl) (by rfl) (by rfl) ?_
          refine WL.skip (d := 25) (by rfl) (by rfl) (by rfl) (by rfl) ?_
          refine WL.skip (d := 25) (by rfl) (by rfl) (by rfl) (by rfl) ?_
          refine WL.skip (d := 25) (by rfl) (by rfl) (by rfl) (by rfl) ?_
          refine WL.run (d := 20) (by rfl) (by rfl) ?_
          refine WL.p (by rfl) (Yl.pickT (by rfl) (by rfl)) ?_
          refine WL.p (by rfl) (Yl.pickT (by rfl) (by rfl)) ?_
          refine WL.p (by rfl) (Yl.move (by rfl)) ?_
          refine WL.run (d := 32) (by rfl) (by rfl) ?_
          refine WL.p (by rfl) (Yl.move (by rfl)) ?_
          refine WL.run (d := 32) (by rfl) (by rfl) ?_
          refine WL.p (by rfl) (Yl.move (by rfl)) ?_
          refine WL.run (d := 32) (by rfl) (by rfl) ?_
          refine WL.p (by rfl) (Yl.index str9 (by rfl) (by rfl) (by rfl) (by assumption)) ?_
          refine WL.run (d := 32) (by rfl) (by rfl) ?_
          refine WL.p (by rfl) (Yl.nei (by rfl) (by rfl)) ?_
          refine WL.p (by rfl) (Yl.pickT (by rfl) (by rfl)) ?_
          refine WL.next ?_
          refine WC.condS (by rfl) (fun h5 => ?_) (fun h5 => ?_)
          ·
            replace h5 := not_eq_true h5
            replace h5 := of_decide_eq_false h5
            refine WC.seq ?_
            refine WL.p (by rfl) (Yl.assign (by rfl)) ?_
            refine WL.next ?_
            refine WC.ret ?_
            refine At.blockret ?_
            refine At.thenret ?_
            refine At.thenret ?_
            refine At.blockret ?_
            refine At.thenret ?_
            refine fin1' rfl (by rfl) ?_
            refine RetP.mk hs ?_
            first
              | (simp [isValue, hJ, valueByte, lower, digit]; done)
              | (simp [isValue, hJ, valueByte, lower, digit]; omega)
              | simp_all [isValue, hJ, valueByte, lower, digit]
          ·
            replace h5 := not_eq_false h5
            replace h5 := of_decide_eq_true h5
            refine WC.skip ?_
            refine At.blocknormal ?_
            refine At.then_ ?_
            refine WC.region ?_
            refine WL.p (by rfl) (Yl.move (by rfl)) ?_
            refine WL.p (by rfl) (Yl.add (by rfl) (by rfl) (by omega)) ?_
            refine WL.p (by rfl) (Yl.assign (by rfl)) ?_
            refine WL.nil ?_
            refine At.roundC (k + 1) (hs.only (by repeat (first | exact Sel.nil | (apply Sel.cons; (repeat (first | exact Ext.here | apply Ext.there)))))) ⟨by rfl, trivial⟩ ⟨by rfl, trivial⟩ ?_ ?_
            ·
              omega
            ·
              rw [hJ]; simp [valueByte, lower, digit]; omega
        ·
          replace h4 := of_decide_eq_false h4
          refine WL.run (d := 25) (by rfl) (by rfl) ?_
          refine WL.p (by rfl) (Yl.move (by rfl)) ?_
          refine WL.run (d := 25) (by rfl) (by rfl) ?_
          refine WL.p (by rfl) (Yl.move (by rfl)) ?_
          refine WL.run (d := 25) (by rfl) (by rfl) ?_
          refine WL.p (by rfl) (Yl.index str9 (by rfl) (by rfl) (by rfl) (by assumption)) ?_
          refine WL.run (d := 25) (by rfl) (by rfl) ?_
          refine WL.p (by rfl) (Yl.gtr (by rfl) (by rfl)) ?_
          refine WL.run (d := 20) (by rfl) (by rfl) ?_
          refine WL.p (by rfl) (Yl.pickF (by rfl) (by rfl)) ?_
          refine WL.p (by rfl) (Yl.pickT (by rfl) (by rfl)) ?_
          refine WL.p (by rfl) (Yl.move (by rfl)) ?_
          refine WL.split (d := 32) (by rfl) (fun h5 => ?_) (fun h5 => ?_)
          ·
            replace h5 := of_decide_eq_true h5
            refine WL.run (d := 32) (by rfl) (by rfl) ?_
            refine WL.p (by rfl) (Yl.move (by rfl)) ?_
            refine WL.run (d := 32) (by rfl) (by rfl) ?_
            refine WL.p (by rfl) (Yl.move (by rfl)) ?_
            refine WL.run (d := 32) (by rfl) (by rfl) ?_
            refine WL.p (by rfl) (Yl.index str9 (by rfl) (by rfl) (by rfl) (by assumption)) ?_
            refine WL.run (d := 32) (by rfl) (by rfl) ?_
            refine WL.p (by rfl) (Yl.nei (by rfl) (by rfl)) ?_
            refine WL.p (by rfl) (Yl.pickT (by rfl) (by rfl)) ?_
            refine WL.next ?_
            refine WC.condS (by rfl) (fun h6 => ?_) (fun h6 => ?_)
            ·
              replace h6 := not_eq_true h6
              replace h6 := of_decide_eq_false h6
              refine WC.seq ?_
              refine WL.p (by rfl) (Yl.assign (by rfl)) ?_
              refine WL.next ?_
              refine WC.ret ?_
              refine At.blockret ?_
              refine At.thenret ?_
              refine At.thenret ?_
              refine At.blockret ?_
              refine At.thenret ?_
              refine fin1' rfl (by rfl) ?_
              refine RetP.mk hs ?_
              first
                | (simp [isValue, hJ, valueByte, lower, digit]; done)
                | (simp [isValue, hJ, valueByte, lower, digit]; omega)
                | simp_all [isValue, hJ, valueByte, lower, digit]
            ·
              replace h6 := not_eq_false h6
              replace h6 := of_decide_eq_true h6
              refine WC.skip ?_
              refine At.blocknormal ?_
              refine At.then_ ?_
              refine WC.region ?_
              refine WL.p (by rfl) (Yl.move (by rfl)) ?_
              refine WL.p (by rfl) (Yl.add (by rfl) (by rfl) (by omega)) ?_
              refine WL.p (by rfl) (Yl.assign (by rfl)) ?_
              refine WL.nil ?_
              refine At.roundC (k + 1) (hs.only (by repeat (first | exact Sel.nil | (apply Sel.cons; (repeat (first | exact Ext.here | apply Ext.there)))))) ⟨by rfl, trivial⟩ ⟨by rfl, trivial⟩ ?_ ?_
              ·
                omega
              ·
                rw [hJ]; simp [valueByte, lower, digit]; omega
          ·
            replace h5 := of_decide_eq_false h5
            refine WL.skip (d := 32) (by rfl) (by rfl) (by rfl) (by rfl) ?_
            refine WL.skip (d := 32) (by rfl) (by rfl) (by rfl) (by rfl) ?_
            refine WL.skip (d := 32) (by rfl) (by rfl) (by rfl) (by rfl) ?_
            refine WL.skip (d := 32) (by rfl) (by rfl) (by rfl) (by rfl) ?_
            refine WL.p (by rfl) (Yl.pickF (by rfl) (by rfl)) ?_
            refine WL.next ?_
            refine WC.condF (by rfl) ?_
            refine WC.skip ?_
            refine At.blocknormal ?_
            refine At.then_ ?_
            refine WC.region ?_
            refine WL.p (by rfl) (Yl.move (by rfl)) ?_
            refine WL.p (by rfl) (Yl.add (by rfl) (by rfl) (by omega)) ?_
            refine WL.p (by rfl) (Yl.assign (by rfl)) ?_
            refine WL.nil ?_
            refine At.roundC (k + 1) (hs.only (by repeat (first | exact Sel.nil | (apply Sel.cons; (repeat (first | exact Ext.here | apply Ext.there)))))) ⟨by rfl, trivial⟩ ⟨by rfl, trivial⟩ ?_ ?_
            ·
              omega
            ·
              rw [hJ]; simp [valueByte, lower, digit]; omega
      ·
        replace h3 := of_decide_eq_false h3
        refine WL.skip (d := 20) (by rfl) (by rfl) (by rfl) (by rfl) ?_
        refine WL.skip (d := 20) (by rfl) (by rfl) (by rfl) (by rfl) ?_
        refine WL.skip (d := 20) (by rfl) (by rfl) (by rfl) (by rfl) ?_
        refine WL.skip (d := 20) (by rfl) (by rfl) (by rfl) (by rfl) ?_
        refine WL.skip (d := 20) (by rfl) (by rfl) (by rfl) (by rfl) ?_
        refine WL.skipU (d := 25) (by rfl) (by rfl) (by rfl) ?_
        refine WL.skipU (d := 25) (by rfl) (by rfl) (by rfl) ?_
        refine WL.skipU (d := 25) (by rfl) (by rfl) (by rfl) ?_
        refine WL.skipU (d := 25) (by rfl) (by rfl) (by rfl) ?_
        refine WL.skip (d := 20) (by rfl) (by rfl) (by rfl) (by rfl) ?_
        refine WL.p (by rfl) (Yl.pickF (by rfl) (by rfl)) ?_
        refine WL.p (by rfl) (Yl.move (by rfl)) ?_
        refine WL.skip (d := 32) (by rfl) (by rfl) (by rfl) (by rfl) ?_
        refine WL.skip (d := 32) (by rfl) (by rfl) (by rfl) (by rfl) ?_
        refine WL.skip (d := 32) (by rfl) (by rfl) (by rfl) (by rfl) ?_
        refine WL.skip (d := 32) (by rfl) (by rfl) (by rfl) (by rfl) ?_
        refine WL.p (by rfl) (Yl.pickF (by rfl) (by rfl)) ?_
        refine WL.next ?_
        refine WC.condF (by rfl) ?_
        refine WC.skip ?_
        refine At.blocknormal ?_
        refine At.then_ ?_
        refine WC.region ?_
        refine WL.p (by rfl) (Yl.move (by rfl)) ?_
        refine WL.p (by rfl) (Yl.add (by rfl) (by rfl) (by omega)) ?_
        refine WL.p (by rfl) (Yl.assign (by rfl)) ?_
        refine WL.nil ?_
        refine At.roundC (k + 1) (hs.only (by repeat (first | exact Sel.nil | (apply Sel.cons; (repeat (first | exact Ext.here | apply Ext.there)))))) ⟨by rfl, trivial⟩ ⟨by rfl, trivial⟩ ?_ ?_
        ·
          omega
        ·
          rw [hJ]; simp [valueByte, lower, digit]; omega
  ·
    replace h1 := of_decide_eq_false h1
    rw [drop_out (l := s) (by omega)] at hJ
    refine WC.exit ?_
    refine At.thenexit ?_
    refine At.thenexit ?_
    refine At.blockexit ?_
    refine At.then_ ?_
    refine WC.seq ?_
    refine WL.p (by rfl) (Yl.move (by rfl)) ?_
    refine WL.p (by rfl) (Yl.len_str str9 (by rfl)) ?_
    refine WL.callp hs (by rfl) (Yc.func (by rfl) fn63) (c_spec_l1In _ _ _ _) ?_
    clear hs; intro w hs
    refine WL.p (by rfl) (Yl.assign (by rfl)) ?_
    refine WL.next ?_
    refine WC.ret ?_
    refine fin1' rfl (by rfl) ?_
    refine RetP.mk hs ?_
    first
      | (simp [isValue, hJ, valueByte, lower, digit]; done)
      | (simp [isValue, hJ, valueByte, lower, digit]; omega)
      | simp_all [isValue, hJ, valueByte, lower, digit]

theorem c_impl_IsValue (s : Str) (w : World) (h_s : Ph.ok w s)  : Calls Try.prog 70 [S s].toArray w (RetP w (Bo (isValue s))) := by
  have hw : s.length ≤ 9223372036854775807 := h_s
  refine enterN 42 Try.func70 rfl rfl rfl ?_
  have hs := Sat.start w
  refine WC.seq ?_
  refine WL.p (by rfl) (Yl.assign (by rfl)) ?_
  refine WL.next ?_
  refine WC.seq' ?_
  refine WC.seq ?_
  refine WL.p (by rfl) (Yl.assign (by rfl)) ?_
  refine WL.next ?_
  refine WC.block ?_
  refine WC.loopC (ι := Nat) (fun k => s.length - k) (fun k => [(3, I (k : Int))]) (fun _ => []) (fun k => s.all valueByte = (s.drop k).all valueByte) [(0, _)] 0 (hs) ⟨by rfl, trivial⟩ ⟨by rfl, trivial⟩ ?_ ?_
  ·
    simp
  clear hs; rintro k w hJ hs
  simp only [List.nil_append] at hs
  refine WC.seq' ?_
  refine WC.seq ?_
  refine WL.p (by rfl) (Yl.move (by rfl)) ?_
  refine WL.p (by rfl) (Yl.move (by rfl)) ?_
  refine WL.p (by rfl) (Yl.len_str str9 (by rfl)) ?_
  refine WL.p (by rfl) (Yl.lss (by rfl) (by rfl)) ?_
  refine WL.next ?_
  refine WC.condS (by rfl) (fun h1 => ?_) (fun h1 => ?_)
  ·
    replace h1 := of_decide_eq_true h1
    obtain ⟨d, hd⟩ := exists_get (l := s) (k := k) (by omega)
    rw [drop_cons hd] at hJ
    refine WC.skipn ?_
    refine WC.seq' ?_
    refine WC.block ?_
    refine WC.seq ?_
    refine WL.p (by rfl) (Yl.move (by rfl)) ?_
    refine WL.p (by rfl) (Yl.move (by rfl)) ?_
    refine WL.p (by rfl) (Yl.index str9 (by rfl) (by rfl) (by rfl) (by assumption)) ?_
    refine WL.p (by rfl) (Yl.geq (by rfl) (by rfl)) ?_
    refine WL.p (by rfl) (Yl.move (by rfl)) ?_
    refine WL.split (d := 14) (by rfl) (fun h2 => ?_) (fun h2 => ?_)
    ·
      replace h2 := of_decide_eq_true h2
      refine WL.run (d := 14) (by rfl) (by rfl) ?_
      refine WL.p (by rfl) (Yl.move (by rfl)) ?_
      refine WL.run (d := 14) (by rfl) (by rfl) ?_
      refine WL.p (by rfl) (Yl.move (by rfl)) ?_
      refine WL.run (d := 14) (by rfl) (by rfl) ?_
      refine WL.p (by rfl) (Yl.index str9 (by rfl) (by rfl) (by rfl) (by assumption)) ?_
      refine WL.run (d := 14) (by rfl) (by rfl) ?_
      refine WL.p (by rfl) (Yl.leq (by rfl) (by rfl)) ?_
      refine WL.p (by rfl) (Yl.pickT (by rfl) (by rfl)) ?_
      refine WL.p (by rfl) (Yl.move (by rfl)) ?_
      refine WL.split (d := 20) (by rfl) (fun h3 => ?_) (fun h3 => ?_)
      ·
        replace h3 := of_decide_eq_true h3
        refine WL.skip (d := 20) (by rfl) (by rfl) (by rfl) (by rfl) ?_
        refine WL.skip (d := 20) (by rfl) (by rfl) (by rfl) (by rfl) ?_
        refine WL.skip (d := 20) (by rfl) (by rfl) (by rfl) (by rfl) ?_
        refine WL.skip (d := 20) (by rfl) (by rfl) (by rfl) (by rfl) ?_
        refine WL.skip (d := 20) (by rfl) (by rfl) (by rfl) (by rfl) ?_
        refine WL.skipU (d := 25) (by rfl) (by rfl) (by rfl) ?_
        refine WL.skipU (d := 25) (by rfl) (by rfl) (by rfl) ?_
        refine WL.skipU (d := 25) (by rfl) (by rfl) (by rfl) ?_
        refine WL.skipU (d := 25) (by rfl) (by rfl) (by rfl) ?_
        refine WL.skip (d := 20) (by rfl) (by rfl) (by rfl) (by rfl) ?_
        refine WL.p (by rfl) (Yl.pickT (by rfl) (by rfl)) ?_
        refine WL.p (by rfl) (Yl.move (by rfl)) ?_
        refine WL.skip (d := 32) (by rfl) (by rfl) (by rfl) (by rfl) ?_
        refine WL.skip (d := 32) (by rfl) (by rfl) (by rfl) (by rfl) ?_
        refine WL.skip (d := 32) (by rfl) (by rfl) (by rfl) (by rfl) ?_
        refine WL.skip (d := 32) (by rfl) (by rfl) (by rfl) (by rfl) ?_
        refine WL.p (by rfl) (Yl.pickT (by rfl) (by rfl)) ?_
        refine WL.p (by rfl) (Yl.not (by rfl)) ?_
        refine WL.next ?_
        refine WC.condF (by rfl) ?_
        refine WC.skip ?_
        refine At.blocknormal ?_
        refine At.then_ ?_
        refine WC.region ?_
        refine WL.p (by rfl) (Yl.move (by rfl)) ?_
        refine WL.p (by rfl) (Yl.add (by rfl) (by rfl) (by omega)) ?_
        refine WL.p (by rfl) (Yl.assign (by rfl)) ?_
        refine WL.nil ?_
        refine At.roundC (k + 1) (hs.only (by repeat (first | exact Sel.nil | (apply Sel.cons; (repeat (first | exact Ext.here | apply Ext.there)))))) ⟨by rfl, trivial⟩ ⟨by rfl, trivial⟩ ?_ ?_
        ·
          omega
        ·
          rw [hJ]; simp [valueByte, lower, digit]; omega
      ·
        replace h3 := of_decide_eq_false h3
        refine WL.run (d := 20) (by rfl) (by rfl) ?_
        refine WL.p (by rfl) (Yl.move (by rfl)) ?_
        refine WL.run (d := 20) (by rfl) (by rfl) ?_
        refine WL.p (by rfl) (Yl.move (by rfl)) ?_
        refine WL.run (d := 20) (by rfl) (by rfl) ?_
        refine WL.p (by rfl) (Yl.index str9 (by rfl) (by rfl) (by rfl) (by assumption)) ?_
        refine WL.run (d := 20) (by rfl) (by rfl) ?_
        refine WL.p (by rfl) (Yl.geq (by rfl) (by rfl)) ?_
        refine WL.run (d := 20) (by rfl) (by rfl) ?_
        refine WL.p (by rfl) (Yl.move (by rfl)) ?_
        refine WL.split (d := 25) (by rfl) (fun h4 => ?_) (fun h4 => ?_)
        ·
          replace h4 := of_decide_eq_true h4
          refine WL.run (d := 25) (by rfl) (by rfl) ?_
          refine WL.p (by rfl) (Yl.move (by rfl)) ?_
          refine WL.run (d := 25) (by rfl) (by rfl) ?_
          refine WL.p (by rfl) (Yl.move (by rfl)) ?_
          refine WL.run (d := 25) (by rfl) (by rfl) ?_
          refine WL.p (by rfl) (Yl.index str9 (by rfl) (by rfl) (by rfl) (by assumption)) ?_
          refine WL.run (d := 25) (by rfl) (by rfl) ?_
          refine WL.p (by rfl) (Yl.leq (by rfl) (by rfl)) ?_
          refine WL.run (d := 20) (by rfl) (by rfl) ?_
          refine WL.p (by rfl) (Yl.pickT (by rfl) (by rfl)) ?_
          refine WL.p (by rfl) (Yl.pickF (by rfl) (by rfl)) ?_
          refine WL.p (by rfl) (Yl.move (by rfl)) ?_
          refine WL.split (d := 32) (by rfl) (fun h5 => ?_) (fun h5 => ?_)
          ·
            replace h5 := of_decide_eq_true h5
            refine WL.skip (d := 32) (by rfl) (by rfl) (by rfl) (by rfl) ?_
            refine WL.skip (d := 32) (by rfl) (by rfl) (by rfl) (by rfl) ?_
            refine WL.skip (d := 32) (by rfl) (by rfl) (by rfl) (by rfl) ?_
            refine WL.skip (d := 32) (by rfl) (by rfl) (by rfl) (by rfl) ?_
            refine WL.p (by rfl) (Yl.pickT (by rfl) (by rfl)) ?_
            refine WL.p (by rfl) (Yl.not (by rfl)) ?_
            refine WL.next ?_
            refine WC.condF (by rfl) ?_
            refine WC.skip ?_
            refine At.blocknormal ?_
            refine At.then_ ?_
            refine WC.region ?_
            refine WL.p (by rfl) (Yl.move (by rfl)) ?_
            refine WL.p (by rfl) (Yl.add (by rfl) (by rfl) (by omega)) ?_
            refine WL.p (by rfl) (Yl.assign (by rfl)) ?_
            refine WL.nil ?_
            refine At.roundC (k + 1) (hs.only (by repeat (first | exact Sel.nil | (apply Sel.cons; (repeat (first | exact Ext.here | apply Ext.there)))))) ⟨by rfl, trivial⟩ ⟨by rfl, trivial⟩ ?_ ?_
            ·
              omega
            ·
              rw [hJ]; simp [valueByte, lower, digit]; omega
          ·
            replace h5 := of_decide_eq_false h5
            refine WL.run (d := 32) (by rfl) (by rfl) ?_
            refine WL.p (by rfl) (Yl.move (by rfl)) ?_
            refine WL.run (d := 32) (by rfl) (by rfl) ?_
            refine WL.p (by rfl) (Yl.move (by rfl)) ?_
            refine WL.run (d := 32) (by rfl) (by rfl) ?_
            refine WL.p (by rfl) (Yl.index str9 (by rfl) (by rfl) (by rfl) (by assumption)) ?_
            refine WL.run (d := 32) (by rfl) (by rfl) ?_
            refine WL.p (by rfl) (Yl.eqi (by rfl) (by rfl)) ?_
            refine WL.p (by rfl) (Yl.pickF (by rfl) (by rfl)) ?_
            refine WL.p (by rfl) (Yl.not (by rfl)) ?_
            refine WL.next ?_
            refine WC.condS (by rfl) (fun h6 => ?_) (fun h6 => ?_)
            ·
              replace h6 := not_eq_true h6
              replace h6 := of_decide_eq_false h6
              refine WC.seq ?_
              refine WL.p (by rfl) (Yl.assign (by rfl)) ?_
              refine WL.next ?_
              refine WC.ret ?_
              refine At.blockret ?_
              refine At.thenret ?_
              refine At.thenret ?_
              refine At.blockret ?_
              refine At.thenret ?_
              refine fin1' rfl (by rfl) ?_
              refine RetP.mk hs ?_
              first
                | (simp [isValue, hJ, valueByte, lower, digit]; done)
                | (simp [isValue, hJ, valueByte, lower, digit]; omega)
                | simp_all [isValue, hJ, valueByte, lower, digit]
            ·
              replace h6 := not_eq_false h6
              replace h6 := of_decide_eq_true h6
              refine WC.skip ?_
              refine At.blocknormal ?_
              refine At.then_ ?_
              refine WC.region ?_
              refine WL.p (by rfl) (Yl.move (by rfl)) ?_
              refine WL.p (by rfl) (Yl.add (by rfl) (by rfl) (by omega)) ?_
              refine WL.p (by rfl) (Yl.assign (by rfl)) ?_
              refine WL.nil ?_
              refine At.roundC (k + 1) (hs.only (by repeat (first | exact Sel.nil | (apply Sel.cons; (repeat (first | exact Ext.here | apply Ext.there)))))) ⟨by rfl, trivial⟩ ⟨by rfl, trivial⟩ ?_ ?_
              ·
                omega
              ·
                rw [hJ]; simp [valueByte, lower, digit]; omega
        ·
          replace h4 := of_decide_eq_false h4
          refine WL.skip (d := 25) (by rfl) (by rfl) (by rfl) (by rfl) ?_
          refine WL.skip (d := 25) (by rfl) (by rfl) (by rfl) (by rfl) ?_
          refine WL.skip (d := 25) (by rfl) (by rfl) (by rfl) (by rfl) ?_
          refine WL.skip (d := 25) (by rfl) (by rfl) (by rfl) (by rfl) ?_
          refine WL.run (d := 20) (by rfl) (by rfl) ?_
          refine WL.p (by rfl) (Yl.pickF (by rfl) (by rfl)) ?_
          refine WL.p (by rfl) (Yl.pickF (by rfl) (by rfl)) ?_
          refine WL.p (by rfl) (Yl.move (by rfl)) ?_
          refine WL.run (d := 32) (by rfl) (by rfl) ?_
          refine WL.p (by rfl) (Yl.move (by rfl)) ?_
          refine WL.run (d := 32) (by rfl) (by rfl) ?_
          refine WL.p (by rfl) (Yl.move (by rfl)) ?_
          refine WL.run (d := 32) (by rfl) (by rfl) ?_
          refine WL.p (by rfl) (Yl.index str9 (by rfl) (by rfl) (by rfl) (by assumption)) ?_
          refine WL.run (d := 32) (by rfl) (by rfl) ?_
          refine WL.p (by rfl) (Yl.eqi (by rfl) (by rfl)) ?_
          refine WL.p (by rfl) (Yl.pickF (by rfl) (by rfl)) ?_
          refine WL.p (by rfl) (Yl.not (by rfl)) ?_
          refine WL.next ?_
          refine WC.condS (by rfl) (fun h5 => ?_) (fun h5 => ?_)
          ·
            replace h5 := not_eq_true h5
            replace h5 := of_decide_eq_false h5
            refine WC.seq ?_
            refine WL.p (by rfl) (Yl.assign (by rfl)) ?_
            refine WL.next ?_
            refine WC.ret ?_
            refine At.blockret ?_
            refine At.thenret ?_
            refine At.thenret ?_
            refine At.blockret ?_
            refine At.thenret ?_
            refine fin1' rfl (by rfl) ?_
            refine RetP.mk hs ?_
            first
              | (simp [isValue, hJ, valueByte, lower, digit]; done)
              | (simp [isValue, hJ, valueByte, lower, digit]; omega)
              | simp_all [isValue, hJ, valueByte, lower, digit]
          ·
            replace h5 := not_eq_false h5
            replace h5 := of_decide_eq_true h5
            refine WC.skip ?_
            refine At.blocknormal ?_
            refine At.then_ ?_
            refine WC.region ?_
            refine WL.p (by rfl) (Yl.move (by rfl)) ?_
            refine WL.p (by rfl) (Yl.add (by rfl) (by rfl) (by omega)) ?_
            refine WL.p (by rfl) (Yl.assign (by rfl)) ?_
            refine WL.nil ?_
            refine At.roundC (k + 1) (hs.only (by repeat (first | exact Sel.nil | (apply Sel.cons; (repeat (first | exact Ext.here | apply Ext.there)))))) ⟨by rfl, trivial⟩ ⟨by rfl, trivial⟩ ?_ ?_
            ·
              omega
            ·
              rw [hJ]; simp [valueByte, lower, digit]; omega
    ·
      replace h2 := of_decide_eq_false h2
      refine WL.skip (d := 14) (by rfl) (by rfl) (by rfl) (by rfl) ?_
      refine WL.skip (d := 14) (by rfl) (by rfl) (by rfl) (by rfl) ?_
      refine WL.skip (d := 14) (by rfl) (by rfl) (by rfl) (by rfl) ?_
      refine WL.skip (d := 14) (by rfl) (by rfl) (by rfl) (by rfl) ?_
      refine WL.p (by rfl) (Yl.pickF (by rfl) (by rfl)) ?_
      refine WL.p (by rfl) (Yl.move (by rfl)) ?_
      refine WL.run (d := 20) (by rfl) (by rfl) ?_
      refine WL.p (by rfl) (Yl.move (by rfl)) ?_
      refine WL.run (d := 20) (by rfl) (by rfl) ?_
      refine WL.p (by rfl) (Yl.move (by rfl)) ?_
      refine WL.run (d := 20) (by rfl) (by rfl) ?_
      refine WL.p (by rfl) (Yl.index str9 (by rfl) (by rfl) (by rfl) (by assumption)) ?_
      refine WL.run (d := 20) (by rfl) (by rfl) ?_
      refine WL.p (by rfl) (Yl.geq (by rfl) (by rfl)) ?_
      refine WL.run (d := 20) (by rfl) (by rfl) ?_
      refine WL.p (by rfl) (Yl.move (by rfl)) ?_
      refine WL.split (d := 25) (by rfl) (fun h3 => ?_) (fun h3 => ?_)
      ·
        replace h3 := of_decide_eq_true h3
        refine WL.run (d := 25) (by rfl) (by rfl) ?_
        refine WL.p (by rfl) (Yl.move (by rfl)) ?_
        refine WL.run (d := 25) (by rfl) (by rfl) ?_
        refine WL.p (by rfl) (Yl.move (by rfl)) ?_
        refine WL.run (d := 25) (by rfl) (by rfl) ?_
        refine WL.p (by rfl) (Yl.index str9 (by rfl) (by rfl) (by rfl) (by assumption)) ?_
        refine WL.run (d := 25) (by rfl) (by rfl) ?_
        refine WL.p (by rfl) (Yl.leq (by rfl) (by rfl)) ?_
        refine WL.run (d := 20) (by rfl) (by rfl) ?_
        refine WL.p (by rfl) (Yl.pickT (by rfl) (by rfl)) ?_
        refine WL.p (by rfl) (Yl.pickF (by rfl) (by rfl)) ?_
        refine WL.p (by rfl) (Yl.move (by rfl)) ?_
        refine WL.split (d := 32) (by rfl) (fun h4 => ?_) (fun h4 => ?_)
        ·
          replace h4 := of_decide_eq_true h4
          refine WL.skip (d := 32) (by rfl) (by rfl) (by rfl) (by rfl) ?_
          refine WL.skip (d := 32) (by rfl) (by rfl) (by rfl) (by rfl) ?_
          refine WL.skip (d := 32) (by rfl) (by rfl) (by rfl) (by rfl) ?_
          refine WL.skip (d := 32) (by rfl) (by rfl) (by rfl) (by rfl) ?_
          refine WL.p (by rfl) (Yl.pickT (by rfl) (by rfl)) ?_
          refine WL.p (by rfl) (Yl.not (by rfl)) ?_
          refine WL.next ?_
          refine WC.condF (by rfl) ?_
          refine WC.skip ?_
          refine At.blocknormal ?_
          refine At.then_ ?_
          refine WC.region ?_
          refine WL.p (by rfl) (Yl.move (by rfl)) ?_
          refine WL.p (by rfl) (Yl.add (by rfl) (by rfl) (by omega)) ?_
          refine WL.p (by rfl) (Yl.assign (by rfl)) ?_
          refine WL.nil ?_
          refine At.roundC (k + 1) (hs.only (by repeat (first | exact Sel.nil | (apply Sel.cons; (repeat (first | exact Ext.here | apply Ext.there)))))) ⟨by rfl, trivial⟩ ⟨by rfl, trivial⟩ ?_ ?_
          ·
            omega
          ·
            rw [hJ]; simp [valueByte, lower, digit]; omega
        ·
          replace h4 := of_decide_eq_false h4
          refine WL.run (d := 32) (by rfl) (by rfl) ?_
          refine WL.p (by rfl) (Yl.move (by rfl)) ?_
          refine WL.run (d := 32) (by rfl) (by rfl) ?_
          refine WL.p (by rfl) (Yl.move (by rfl)) ?_
          refine WL.run (d := 32) (by rfl) (by rfl) ?_
          refine WL.p (by rfl) (Yl.index str9 (by rfl) (by rfl) (by rfl) (by assumption)) ?_
          refine WL.run (d := 32) (by rfl) (by rfl) ?_
          refine WL.p (by rfl) (Yl.eqi (by rfl) (by rfl)) ?_
          refine WL.p (by rfl) (Yl.pickF (by rfl) (by rfl)) ?_
          refine WL.p (by rfl) (Yl.not (by rfl)) ?_
          refine WL.next ?_
          refine WC.condS (by rfl) (fun h5 => ?_) (fun h5 => ?_)
          ·
            replace h5 := not_eq_true h5
            replace h5 := of_decide_eq_false h5
            refine WC.seq ?_
            refine WL.p (by rfl) (Yl.assign (by rfl)) ?_
            refine WL.next ?_
            refine WC.ret ?_
            refine At.blockret ?_
            refine At.thenret ?_
            refine At.thenret ?_
            refine At.blockret ?_
            refine At.thenret ?_
            refine fin1' rfl (by rfl) ?_
            refine RetP.mk hs ?_
            first
              | (simp [isValue, hJ, valueByte, lower, digit]; done)
              | (simp [isValue, hJ, valueByte, lower, digit]; omega)
              | simp_all [isValue, hJ, valueByte, lower, digit]
          ·
            replace h5 := not_eq_false h5
            replace h5 := of_decide_eq_true h5
            refine WC.skip ?_
            refine At.blocknormal ?_
            refine At.then_ ?_
            refine WC.region ?_
            refine WL.p (by rfl) (Yl.move (by rfl)) ?_
            refine WL.p (by rfl) (Yl.add (by rfl) (by rfl) (by omega)) ?_
            refine WL.p (by rfl) (Yl.assign (by rfl)) ?_
            refine WL.nil ?_
            refine At.roundC (k + 1) (hs.only (by repeat (first | exact Sel.nil | (apply Sel.cons; (repeat (first | exact Ext.here | apply Ext.there)))))) ⟨by rfl, trivial⟩ ⟨by rfl, trivial⟩ ?_ ?_
            ·
              omega
            ·
              rw [hJ]; simp [valueByte, lower, digit]; omega
      ·
        replace h3 := of_decide_eq_false h3
        refine WL.skip (d := 25) (by rfl) (by rfl) (by rfl) (by rfl) ?_
        refine WL.skip (d := 25) (by rfl) (by rfl) (by rfl) (by rfl) ?_
        refine WL.skip (d := 25) (by rfl) (by rfl) (by rfl) (by rfl) ?_
        refine WL.skip (d := 25) (by rfl) (by rfl) (by rfl) (by rfl) ?_
        refine WL.run (d := 20) (by rfl) (by rfl) ?_
        refine WL.p (by rfl) (Yl.pickF (by rfl) (by rfl)) ?_
        refine WL.p (by rfl) (Yl.pickF (by rfl) (by rfl)) ?_
        refine WL.p (by rfl) (Yl.move (by rfl)) ?_
        refine WL.run (d := 32) (by rfl) (by rfl) ?_
        refine WL.p (by rfl) (Yl.move (by rfl)) ?_
        refine WL.run (d := 32) (by rfl) (by rfl) ?_
        refine WL.p (by rfl) (Yl.move (by rfl)) ?_
        refine WL.run (d := 32) (by rfl) (by rfl) ?_
        refine WL.p (by rfl) (Yl.index str9 (by rfl) (by rfl) (by rfl) (by assumption)) ?_
        refine WL.run (d := 32) (by rfl) (by rfl) ?_
        refine WL.p (by rfl) (Yl.eqi (by rfl) (by rfl)) ?_
        refine WL.p (by rfl) (Yl.pickF (by rfl) (by rfl)) ?_
        refine WL.p (by rfl) (Yl.not (by rfl)) ?_
        refine WL.next ?_
        refine WC.condS (by rfl) (fun h4 => ?_) (fun h4 => ?_)
        ·
          replace h4 := not_eq_true h4
          replace h4 := of_decide_eq_false h4
          refine WC.seq ?_
          refine WL.p (by rfl) (Yl.assign (by rfl)) ?_
          refine WL.next ?_
          refine WC.ret ?_
          refine At.blockret ?_
          refine At.thenret ?_
          refine At.thenret ?_
          refine At.blockret ?_
          refine At.thenret ?_
          refine fin1' rfl (by rfl) ?_
          refine RetP.mk hs ?_
          first
            | (simp [isValue, hJ, valueByte, lower, digit]; done)
            | (simp [isValue, hJ, valueByte, lower, digit]; omega)
            | simp_all [isValue, hJ, valueByte, lower, digit]
        ·
          replace h4 := not_eq_false h4
          replace h4 := of_decide_eq_true h4
          refine WC.skip ?_
          refine At.blocknormal ?_
          refine At.then_ ?_
          refine WC.region ?_
          refine WL.p (by rfl) (Yl.move (by rfl)) ?_
          refine WL.p (by rfl) (Yl.add (by rfl) (by rfl) (by omega)) ?_
          refine WL.p (by rfl) (Yl.assign (by rfl)) ?_
          refine WL.nil ?_
          refine At.roundC (k + 1) (hs.only (by repeat (first | exact Sel.nil | (apply Sel.cons; (repeat (first | exact Ext.here | apply Ext.there)))))) ⟨by rfl, trivial⟩ ⟨by rfl, trivial⟩ ?_ ?_
          ·
            omega
          ·
            rw [hJ]; simp [valueByte, lower, digit]; omega
  ·
    replace h1 := of_decide_eq_false h1
    rw [drop_out (l := s) (by omega)] at hJ
    refine WC.exit ?_
    refine At.thenexit ?_
    refine At.thenexit ?_
    refine At.blockexit ?_
    refine At.then_ ?_
    refine WC.seq ?_
    refine WL.p (by rfl) (Yl.move (by rfl)) ?_
    refine WL.p (by rfl) (Yl.len_str str9 (by rfl)) ?_
    refine WL.callp hs (by rfl) (Yc.func (by rfl) fn67) (c_impl_InRange _ _ _ _) ?_
    clear hs; intro w hs
    refine WL.p (by rfl) (Yl.assign (by rfl)) ?_
    refine WL.next ?_
    refine WC.ret ?_
    refine fin1' rfl (by rfl) ?_
    refine RetP.mk hs ?_
    first
      | (simp [isValue, hJ, valueByte, lower, digit]; done)
      | (simp [isValue, hJ, valueByte, lower, digit]; omega)
      | simp_all [isValue, hJ, valueByte, lower, digit]

theorem c_spec_IsAddr (a : TAddr) (w : World) (h_a : Ph.ok w a)  : Calls Try.prog 64 [.agg #[S a.host, S a.path]].toArray w (RetP w (Bo (a.is))) := by
  refine enterN 11 Try.func64 rfl rfl rfl ?_
  have hs := Sat.start w
  refine WC.seq ?_
  refine WL.r (by rfl) (Yr.box hs (by rfl) (by rfl)) ?_
  clear hs; rintro _ w ⟨b1, rfl, hb, hs⟩; clear hb
  refine WL.p (by rfl) (Yl.assign (by rfl)) ?_
  refine WL.next ?_
  refine WC.seq ?_
  refine WL.p (by rfl) (Yl.fieldAddr fa28_0 (by rfl)) ?_
  refine WL.p (by rfl) (Yl.loadB sca9 (by rfl) hs (by repeat (first | exact List.mem_cons_self | apply List.mem_cons_of_mem)) (by rfl)) ?_
  refine WL.callp hs (by rfl) (Yc.func (by rfl) fn65) (c_spec_IsName _ _ (Ph.old h_a.host hs)) ?_
  clear hs; intro w hs
  refine WL.p (by rfl) (Yl.move (by rfl)) ?_
  refine WL.split (d := 6) (by rfl) (fun h1 => ?_) (fun h1 => ?_)
  ·
    refine WL.run (d := 6) (by rfl) (by rfl) ?_
    refine WL.p (by rfl) (Yl.fieldAddr fa28_1 (by rfl)) ?_
    refine WL.run (d := 6) (by rfl) (by rfl) ?_
    refine WL.p (by rfl) (Yl.loadB sca9 (by rfl) hs (by repeat (first | exact List.mem_cons_self | apply List.mem_cons_of_mem)) (by rfl)) ?_
    refine WL.run (d := 6) (by rfl) (by rfl) ?_
    refine WL.callp hs (by rfl) (Yc.func (by rfl) fn65) (c_spec_IsName _ _ (Ph.old h_a.path hs)) ?_
    clear hs; intro w hs
    refine WL.p (by rfl) (Yl.pickT (by rfl) (by rfl)) ?_
    refine WL.p (by rfl) (Yl.assign (by rfl)) ?_
    refine WL.next ?_
    refine WC.ret ?_
    refine fin1' rfl (by rfl) ?_
    refine RetP.mk hs ?_
    simp_all [TAddr.is]
  ·
    refine WL.skip (d := 6) (by rfl) (by rfl) (by rfl) (by rfl) ?_
    refine WL.skip (d := 6) (by rfl) (by rfl) (by rfl) (by rfl) ?_
    refine WL.skip (d := 6) (by rfl) (by rfl) (by rfl) (by rfl) ?_
    refine WL.p (by rfl) (Yl.pickF (by rfl) (by rfl)) ?_
    refine WL.p (by rfl) (Yl.assign (by rfl)) ?_
    refine WL.next ?_
    refine WC.ret ?_
    refine fin1' rfl (by rfl) ?_
    refine RetP.mk hs ?_
    simp_all [TAddr.is]

theorem c_impl_IsAddr (a : TAddr) (w : World) (h_a : Ph.ok w a)  : Calls Try.prog 68 [.agg #[S a.host, S a.path]].toArray w (RetP w (Bo (a.is))) := by
  refine enterN 11 Try.func68 rfl rfl rfl ?_
  have hs := Sat.start w
  refine WC.seq ?_
  refine WL.r (by rfl) (Yr.box hs (by rfl) (by rfl)) ?_
  clear hs; rintro _ w ⟨b1, rfl, hb, hs⟩; clear hb
  refine WL.p (by rfl) (Yl.assign (by rfl)) ?_
  refine WL.next ?_
  refine WC.seq ?_
  refine WL.p (by rfl) (Yl.fieldAddr fa28_0 (by rfl)) ?_
  refine WL.p (by rfl) (Yl.loadB sca9 (by rfl) hs (by repeat (first | exact List.mem_cons_self | apply List.mem_cons_of_mem)) (by rfl)) ?_
  refine WL.callp hs (by rfl) (Yc.func (by rfl) fn69) (c_impl_IsName _ _ (Ph.old h_a.host hs)) ?_
  clear hs; intro w hs
  refine WL.p (by rfl) (Yl.move (by rfl)) ?_
  refine WL.split (d := 6) (by rfl) (fun h1 => ?_) (fun h1 => ?_)
  ·
    refine WL.run (d := 6) (by rfl) (by rfl) ?_
    refine WL.p (by rfl) (Yl.fieldAddr fa28_1 (by rfl)) ?_
    refine WL.run (d := 6) (by rfl) (by rfl) ?_
    refine WL.p (by rfl) (Yl.loadB sca9 (by rfl) hs (by repeat (first | exact List.mem_cons_self | apply List.mem_cons_of_mem)) (by rfl)) ?_
    refine WL.run (d := 6) (by rfl) (by rfl) ?_
    refine WL.callp hs (by rfl) (Yc.func (by rfl) fn69) (c_impl_IsName _ _ (Ph.old h_a.path hs)) ?_
    clear hs; intro w hs
    refine WL.p (by rfl) (Yl.pickT (by rfl) (by rfl)) ?_
    refine WL.p (by rfl) (Yl.assign (by rfl)) ?_
    refine WL.next ?_
    refine WC.ret ?_
    refine fin1' rfl (by rfl) ?_
    refine RetP.mk hs ?_
    simp_all [TAddr.is]
  ·
    refine WL.skip (d := 6) (by rfl) (by rfl) (by rfl) (by rfl) ?_
    refine WL.skip (d := 6) (by rfl) (by rfl) (by rfl) (by rfl) ?_
    refine WL.skip (d := 6) (by rfl) (by rfl) (by rfl) (by rfl) ?_
    refine WL.p (by rfl) (Yl.pickF (by rfl) (by rfl)) ?_
    refine WL.p (by rfl) (Yl.assign (by rfl)) ?_
    refine WL.next ?_
    refine WC.ret ?_
    refine fin1' rfl (by rfl) ?_
    refine RetP.mk hs ?_
    simp_all [TAddr.is]

theorem c_spec_SameRequest (a : TRequest) (b : TRequest) (w : World)   : Calls Try.prog 16 [.agg #[I a.kind, S a.to.host, S a.to.path, S a.frm, S a.digest], .agg #[I b.kind, S b.to.host, S b.to.path, S b.frm, S b.digest]].toArray w (RetP w (Bo (decide (a.to = b.to) && decide (a.frm = b.frm)))) := by
  refine enterN 17 Try.func16 rfl rfl rfl ?_
  have hs := Sat.start w
  refine WC.seq ?_
  refine WL.r (by rfl) (Yr.box hs (by rfl) (by rfl)) ?_
  clear hs; rintro _ w ⟨b1, rfl, hb, hs⟩; clear hb
  refine WL.r (by rfl) (Yr.box hs (by rfl) (by rfl)) ?_
  clear hs; rintro _ w ⟨b2, rfl, hb, hs⟩; clear hb
  refine WL.p (by rfl) (Yl.assign (by rfl)) ?_
  refine WL.next ?_
  refine WC.seq ?_
  refine WL.p (by rfl) (Yl.fieldAddr fa30_1 (by rfl)) ?_
  refine WL.p (by rfl) (Yl.loadAB agg28 (by rfl) hs (by repeat (first | exact List.mem_cons_self | apply List.mem_cons_of_mem)) (by rfl) (by rfl)) ?_
  refine WL.p (by rfl) (Yl.fieldAddr fa30_1 (by rfl)) ?_
  refine WL.p (by rfl) (Yl.loadAB agg28 (by rfl) hs (by repeat (first | exact List.mem_cons_self | apply List.mem_cons_of_mem)) (by rfl) (by rfl)) ?_
  refine WL.p (by rfl) (Yl.eqt eqt28 (by rfl) (by rfl)) ?_
  refine WL.p (by rfl) (Yl.move (by rfl)) ?_
  refine WL.split (d := 10) (by rfl) (fun h1 => ?_) (fun h1 => ?_)
  ·
    replace h1 := of_decide_eq_true h1
    refine WL.run (d := 10) (by rfl) (by rfl) ?_
    refine WL.p (by rfl) (Yl.fieldAddr fa30_2 (by rfl)) ?_
    refine WL.run (d := 10) (by rfl) (by rfl) ?_
    refine WL.p (by rfl) (Yl.loadB sca9 (by rfl) hs (by repeat (first | exact List.mem_cons_self | apply List.mem_cons_of_mem)) (by rfl)) ?_
    refine WL.run (d := 10) (by rfl) (by rfl) ?_
    refine WL.p (by rfl) (Yl.fieldAddr fa30_2 (by rfl)) ?_
    refine WL.run (d := 10) (by rfl) (by rfl) ?_
    refine WL.p (by rfl) (Yl.loadB sca9 (by rfl) hs (by repeat (first | exact List.mem_cons_self | apply List.mem_cons_of_mem)) (by rfl)) ?_
    refine WL.run (d := 10) (by rfl) (by rfl) ?_
    refine WL.p (by rfl) (Yl.eqs (by rfl) (by rfl)) ?_
    refine WL.p (by rfl) (Yl.pickT (by rfl) (by rfl)) ?_
    refine WL.p (by rfl) (Yl.assign (by rfl)) ?_
    refine WL.next ?_
    refine WC.ret ?_
    refine fin1' rfl (by rfl) ?_
    refine RetP.mk hs ?_
    simp_all
  ·
    replace h1 := of_decide_eq_false h1
    refine WL.skip (d := 10) (by rfl) (by rfl) (by rfl) (by rfl) ?_
    refine WL.skip (d := 10) (by rfl) (by rfl) (by rfl) (by rfl) ?_
    refine WL.skip (d := 10) (by rfl) (by rfl) (by rfl) (by rfl) ?_
    refine WL.skip (d := 10) (by rfl) (by rfl) (by rfl) (by rfl) ?_
    refine WL.skip (d := 10) (by rfl) (by rfl) (by rfl) (by rfl) ?_
    refine WL.p (by rfl) (Yl.pickF (by rfl) (by rfl)) ?_
    refine WL.p (by rfl) (Yl.assign (by rfl)) ?_
    refine WL.next ?_
    refine WC.ret ?_
    refine fin1' rfl (by rfl) ?_
    refine RetP.mk hs ?_
    simp_all

theorem c_impl_SameRequest (a : TRequest) (b : TRequest) (w : World)   : Calls Try.prog 18 [.agg #[I a.kind, S a.to.host, S a.to.path, S a.frm, S a.digest], .agg #[I b.kind, S b.to.host, S b.to.path, S b.frm, S b.digest]].toArray w (RetP w (Bo (decide (a.to = b.to) && decide (a.frm = b.frm)))) := by
  refine enterN 17 Try.func18 rfl rfl rfl ?_
  have hs := Sat.start w
  refine WC.seq ?_
  refine WL.r (by rfl) (Yr.box hs (by rfl) (by rfl)) ?_
  clear hs; rintro _ w ⟨b1, rfl, hb, hs⟩; clear hb
  refine WL.r (by rfl) (Yr.box hs (by rfl) (by rfl)) ?_
  clear hs; rintro _ w ⟨b2, rfl, hb, hs⟩; clear hb
  refine WL.p (by rfl) (Yl.assign (by rfl)) ?_
  refine WL.next ?_
  refine WC.seq ?_
  refine WL.p (by rfl) (Yl.fieldAddr fa30_1 (by rfl)) ?_
  refine WL.p (by rfl) (Yl.loadAB agg28 (by rfl) hs (by repeat (first | exact List.mem_cons_self | apply List.mem_cons_of_mem)) (by rfl) (by rfl)) ?_
  refine WL.p (by rfl) (Yl.fieldAddr fa30_1 (by rfl)) ?_
  refine WL.p (by rfl) (Yl.loadAB agg28 (by rfl) hs (by repeat (first | exact List.mem_cons_self | apply List.mem_cons_of_mem)) (by rfl) (by rfl)) ?_
  refine WL.p (by rfl) (Yl.eqt eqt28 (by rfl) (by rfl)) ?_
  refine WL.p (by rfl) (Yl.move (by rfl)) ?_
  refine WL.split (d := 10) (by rfl) (fun h1 => ?_) (fun h1 => ?_)
  ·
    replace h1 := of_decide_eq_true h1
    refine WL.run (d := 10) (by rfl) (by rfl) ?_
    refine WL.p (by rfl) (Yl.fieldAddr fa30_2 (by rfl)) ?_
    refine WL.run (d := 10) (by rfl) (by rfl) ?_
    refine WL.p (by rfl) (Yl.loadB sca9 (by rfl) hs (by repeat (first | exact List.mem_cons_self | apply List.mem_cons_of_mem)) (by rfl)) ?_
    refine WL.run (d := 10) (by rfl) (by rfl) ?_
    refine WL.p (by rfl) (Yl.fieldAddr fa30_2 (by rfl)) ?_
    refine WL.run (d := 10) (by rfl) (by rfl) ?_
    refine WL.p (by rfl) (Yl.loadB sca9 (by rfl) hs (by repeat (first | exact List.mem_cons_self | apply List.mem_cons_of_mem)) (by rfl)) ?_
    refine WL.run (d := 10) (by rfl) (by rfl) ?_
    refine WL.p (by rfl) (Yl.eqs (by rfl) (by rfl)) ?_
    refine WL.p (by rfl) (Yl.pickT (by rfl) (by rfl)) ?_
    refine WL.p (by rfl) (Yl.assign (by rfl)) ?_
    refine WL.next ?_
    refine WC.ret ?_
    refine fin1' rfl (by rfl) ?_
    refine RetP.mk hs ?_
    simp_all
  ·
    replace h1 := of_decide_eq_false h1
    refine WL.skip (d := 10) (by rfl) (by rfl) (by rfl) (by rfl) ?_
    refine WL.skip (d := 10) (by rfl) (by rfl) (by rfl) (by rfl) ?_
    refine WL.skip (d := 10) (by rfl) (by rfl) (by rfl) (by rfl) ?_
    refine WL.skip (d := 10) (by rfl) (by rfl) (by rfl) (by rfl) ?_
    refine WL.skip (d := 10) (by rfl) (by rfl) (by rfl) (by rfl) ?_
    refine WL.p (by rfl) (Yl.pickF (by rfl) (by rfl)) ?_
    refine WL.p (by rfl) (Yl.assign (by rfl)) ?_
    refine WL.next ?_
    refine WC.ret ?_
    refine fin1' rfl (by rfl) ?_
    refine RetP.mk hs ?_
    simp_all

theorem c_spec_IsRequest (r : TRequest) (w : World) (h_r : Ph.ok w r)  : Calls Try.prog 31 [.agg #[I r.kind, S r.to.host, S r.to.path, S r.frm, S r.digest]].toArray w (RetP w (Bo (r.is))) := by
  refine enterN 26 Try.func31 rfl rfl rfl ?_
  have hs := Sat.start w
  refine WC.seq ?_
  refine WL.r (by rfl) (Yr.box hs (by rfl) (by rfl)) ?_
  clear hs; rintro _ w ⟨b1, rfl, hb, hs⟩; clear hb
  refine WL.p (by rfl) (Yl.assign (by rfl)) ?_
  refine WL.next ?_
  refine WC.seq ?_
  refine WL.p (by rfl) (Yl.fieldAddr fa30_0 (by rfl)) ?_
  refine WL.p (by rfl) (Yl.loadB sca3 (by rfl) hs (by repeat (first | exact List.mem_cons_self | apply List.mem_cons_of_mem)) (by rfl)) ?_
  refine WL.callp hs (by rfl) (Yc.func (by rfl) fn63) (c_spec_l1In _ _ _ _) ?_
  clear hs; intro w hs
  refine WL.p (by rfl) (Yl.move (by rfl)) ?_
  refine WL.split (d := 6) (by rfl) (fun h1 => ?_) (fun h1 => ?_)
  ·
    replace h1 := inR_true.1 h1
    refine WL.run (d := 6) (by rfl) (by rfl) ?_
    refine WL.p (by rfl) (Yl.fieldAddr fa30_1 (by rfl)) ?_
    refine WL.run (d := 6) (by rfl) (by rfl) ?_
    refine WL.p (by rfl) (Yl.loadAB agg28 (by rfl) hs (by repeat (first | exact List.mem_cons_self | apply List.mem_cons_of_mem)) (by rfl) (by rfl)) ?_
    refine WL.run (d := 6) (by rfl) (by rfl) ?_
    refine WL.callp hs (by rfl) (Yc.func (by rfl) fn64) (c_spec_IsAddr _ _ ⟨(Ph.old h_r.to.host hs), (Ph.old h_r.to.path hs)⟩) ?_
    clear hs; intro w hs
    refine WL.p (by rfl) (Yl.pickT (by rfl) (by rfl)) ?_
    refine WL.p (by rfl) (Yl.move (by rfl)) ?_
    refine WL.split (d := 11) (by rfl) (fun h2 => ?_) (fun h2 => ?_)
    ·
      refine WL.run (d := 11) (by rfl) (by rfl) ?_
      refine WL.p (by rfl) (Yl.fieldAddr fa30_2 (by rfl)) ?_
      refine WL.run (d := 11) (by rfl) (by rfl) ?_
      refine WL.p (by rfl) (Yl.loadB sca9 (by rfl) hs (by repeat (first | exact List.mem_cons_self | apply List.mem_cons_of_mem)) (by rfl)) ?_
      refine WL.run (d := 11) (by rfl) (by rfl) ?_
      refine WL.callp hs (by rfl) (Yc.func (by rfl) fn65) (c_spec_IsName _ _ (Ph.old h_r.frm hs)) ?_
      clear hs; intro w hs
      refine WL.p (by rfl) (Yl.pickT (by rfl) (by rfl)) ?_
      refine WL.p (by rfl) (Yl.move (by rfl)) ?_
      refine WL.split (d := 16) (by rfl) (fun h3 => ?_) (fun h3 => ?_)
      ·
        refine WL.run (d := 16) (by rfl) (by rfl) ?_
        refine WL.p (by rfl) (Yl.fieldAddr fa30_3 (by rfl)) ?_
        refine WL.run (d := 16) (by rfl) (by rfl) ?_
        refine WL.p (by rfl) (Yl.loadB sca9 (by rfl) hs (by repeat (first | exact List.mem_cons_self | apply List.mem_cons_of_mem)) (by rfl)) ?_
        refine WL.run (d := 16) (by rfl) (by rfl) ?_
        refine WL.p (by rfl) (Yl.eqs (by rfl) (by rfl)) ?_
        refine WL.run (d := 16) (by rfl) (by rfl) ?_
        refine WL.p (by rfl) (Yl.move (by rfl)) ?_
        refine WL.split (d := 20) (by rfl) (fun h4 => ?_) (fun h4 => ?_)
        ·
          replace h4 := of_decide_eq_true h4
          refine WL.skip (d := 20) (by rfl) (by rfl) (by rfl) (by rfl) ?_
          refine WL.skip (d := 20) (by rfl) (by rfl) (by rfl) (by rfl) ?_
          refine WL.skip (d := 20) (by rfl) (by rfl) (by rfl) (by rfl) ?_
          refine WL.run (d := 16) (by rfl) (by rfl) ?_
          refine WL.p (by rfl) (Yl.pickT (by rfl) (by rfl)) ?_
          refine WL.p (by rfl) (Yl.pickT (by rfl) (by rfl)) ?_
          refine WL.p (by rfl) (Yl.assign (by rfl)) ?_
          refine WL.next ?_
          refine WC.ret ?_
          refine fin1' rfl (by rfl) ?_
          refine RetP.mk hs ?_
          first
            | (rw [← inR_true] at h1; simp_all [TRequest.is]; done)
            | (rw [← inR_false] at h1; simp_all [TRequest.is])
        ·
          replace h4 := of_decide_eq_false h4
          refine WL.run (d := 20) (by rfl) (by rfl) ?_
          refine WL.p (by rfl) (Yl.fieldAddr fa30_3 (by rfl)) ?_
          refine WL.run (d := 20) (by rfl) (by rfl) ?_
          refine WL.p (by rfl) (Yl.loadB sca9 (by rfl) hs (by repeat (first | exact List.mem_cons_self | apply List.mem_cons_of_mem)) (by rfl)) ?_
          refine WL.run (d := 20) (by rfl) (by rfl) ?_
          refine WL.callp hs (by rfl) (Yc.func (by rfl) fn66) (c_spec_IsValue _ _ (Ph.old h_r.digest hs)) ?_
          clear hs; intro w hs
          refine WL.run (d := 16) (by rfl) (by rfl) ?_
          refine WL.p (by rfl) (Yl.pickF (by rfl) (by rfl)) ?_
          refine WL.p (by rfl) (Yl.pickT (by rfl) (by rfl)) ?_
          refine WL.p (by rfl) (Yl.assign (by rfl)) ?_
          refine WL.next ?_
          refine WC.ret ?_
          refine fin1' rfl (by rfl) ?_
          refine RetP.mk hs ?_
          first
            | (rw [← inR_true] at h1; simp_all [TRequest.is]; done)
            | (rw [← inR_false] at h1; simp_all [TRequest.is])
      ·
        refine WL.skip (d := 16) (by rfl) (by rfl) (by rfl) (by rfl) ?_
        refine WL.skip (d := 16) (by rfl) (by rfl) (by rfl) (by rfl) ?_
        refine WL.skip (d := 16) (by rfl) (by rfl) (by rfl) (by rfl) ?_
        refine WL.skip (d := 16) (by rfl) (by rfl) (by rfl) (by rfl) ?_
        refine WL.skipU (d := 20) (by rfl) (by rfl) (by rfl) ?_
        refine WL.skipU (d := 20) (by rfl) (by rfl) (by rfl) ?_
        refine WL.skipU (d := 20) (by rfl) (by rfl) (by rfl) ?_
        refine WL.skip (d := 16) (by rfl) (by rfl) (by rfl) (by rfl) ?_
        refine WL.p (by rfl) (Yl.pickF (by rfl) (by rfl)) ?_
        refine WL.p (by rfl) (Yl.assign (by rfl)) ?_
        refine WL.next ?_
        refine WC.ret ?_
        refine fin1' rfl (by rfl) ?_
        refine RetP.mk hs ?_
        first
          | (rw [← inR_true] at h1; simp_all [TRequest.is]; done)
          | (rw [← inR_false] at h1; simp_all [TRequest.is])
    ·
      refine WL.skip (d := 11) (by rfl) (by rfl) (by rfl) (by rfl) ?_
      refine WL.skip (d := 11) (by rfl) (by rfl) (by rfl) (by rfl) ?_
      refine WL.skip (d := 11) (by rfl) (by rfl) (by rfl) (by rfl) ?_
      refine WL.p (by rfl) (Yl.pickF (by rfl) (by rfl)) ?_
      refine WL.p (by rfl) (Yl.move (by rfl)) ?_
      refine WL.skip (d := 16) (by rfl) (by rfl) (by rfl) (by rfl) ?_
      refine WL.skip (d := 16) (by rfl) (by rfl) (by rfl) (by rfl) ?_
      refine WL.skip (d := 16) (by rfl) (by rfl) (by rfl) (by rfl) ?_
      refine WL.skip (d := 16) (by rfl) (by rfl) (by rfl) (by rfl) ?_
      refine WL.skipU (d := 20) (by rfl) (by rfl) (by rfl) ?_
      refine WL.skipU (d := 20) (by rfl) (by rfl) (by rfl) ?_
      refine WL.skipU (d := 20) (by rfl) (by rfl) (by rfl) ?_
      refine WL.skip (d := 16) (by rfl) (by rfl) (by rfl) (by rfl) ?_
      refine WL.p (by rfl) (Yl.pickF (by rfl) (by rfl)) ?_
      refine WL.p (by rfl) (Yl.assign (by rfl)) ?_
      refine WL.next ?_
      refine WC.ret ?_
      refine fin1' rfl (by rfl) ?_
      refine RetP.mk hs ?_
      first
        | (rw [← inR_true] at h1; simp_all [TRequest.is]; done)
        | (rw [← inR_false] at h1; simp_all [TRequest.is])
  ·
    replace h1 := inR_false.1 h1
    refine WL.skip (d := 6) (by rfl) (by rfl) (by rfl) (by rfl) ?_
    refine WL.skip (d := 6) (by rfl) (by rfl) (by rfl) (by rfl) ?_
    refine WL.skip (d := 6) (by rfl) (by rfl) (by rfl) (by rfl) ?_
    refine WL.p (by rfl) (Yl.pickF (by rfl) (by rfl)) ?_
    refine WL.p (by rfl) (Yl.move (by rfl)) ?_
    refine WL.skip (d := 11) (by rfl) (by rfl) (by rfl) (by rfl) ?_
    refine WL.skip (d := 11) (by rfl) (by rfl) (by rfl) (by rfl) ?_
    refine WL.skip (d := 11) (by rfl) (by rfl) (by rfl) (by rfl) ?_
    refine WL.p (by rfl) (Yl.pickF (by rfl) (by rfl)) ?_
    refine WL.p (by rfl) (Yl.move (by rfl)) ?_
    refine WL.skip (d := 16) (by rfl) (by rfl) (by rfl) (by rfl) ?_
    refine WL.skip (d := 16) (by rfl) (by rfl) (by rfl) (by rfl) ?_
    refine WL.skip (d := 16) (by rfl) (by rfl) (by rfl) (by rfl) ?_
    refine WL.skip (d := 16) (by rfl) (by rfl) (by rfl) (by rfl) ?_
    refine WL.skipU (d := 20) (by rfl) (by rfl) (by rfl) ?_
    refine WL.skipU (d := 20) (by rfl) (by rfl) (by rfl) ?_
    refine WL.skipU (d := 20) (by rfl) (by rfl) (by rfl) ?_
    refine WL.skip (d := 16) (by rfl) (by rfl) (by rfl) (by rfl) ?_
    refine WL.p (by rfl) (Yl.pickF (by rfl) (by rfl)) ?_
    refine WL.p (by rfl) (Yl.assign (by rfl)) ?_
    refine WL.next ?_
    refine WC.ret ?_
    refine fin1' rfl (by rfl) ?_
    refine RetP.mk hs ?_
    first
      | (rw [← inR_true] at h1; simp_all [TRequest.is]; done)
      | (rw [← inR_false] at h1; simp_all [TRequest.is])

theorem c_impl_IsRequest (r : TRequest) (w : World) (h_r : Ph.ok w r)  : Calls Try.prog 32 [.agg #[I r.kind, S r.to.host, S r.to.path, S r.frm, S r.digest]].toArray w (RetP w (Bo (r.is))) := by
  refine enterN 26 Try.func32 rfl rfl rfl ?_
  have hs := Sat.start w
  refine WC.seq ?_
  refine WL.r (by rfl) (Yr.box hs (by rfl) (by rfl)) ?_
  clear hs; rintro _ w ⟨b1, rfl, hb, hs⟩; clear hb
  refine WL.p (by rfl) (Yl.assign (by rfl)) ?_
  refine WL.next ?_
  refine WC.seq ?_
  refine WL.p (by rfl) (Yl.fieldAddr fa30_0 (by rfl)) ?_
  refine WL.p (by rfl) (Yl.loadB sca3 (by rfl) hs (by repeat (first | exact List.mem_cons_self | apply List.mem_cons_of_mem)) (by rfl)) ?_
  refine WL.callp hs (by rfl) (Yc.func (by rfl) fn67) (c_impl_InRange _ _ _ _) ?_
  clear hs; intro w hs
  refine WL.p (by rfl) (Yl.move (by rfl)) ?_
  refine WL.split (d := 6) (by rfl) (fun h1 => ?_) (fun h1 => ?_)
  ·
    replace h1 := inR_true.1 h1
    refine WL.run (d := 6) (by rfl) (by rfl) ?_
    refine WL.p (by rfl) (Yl.fieldAddr fa30_1 (by rfl)) ?_
    refine WL.run (d := 6) (by rfl) (by rfl) ?_
    refine WL.p (by rfl) (Yl.loadAB agg28 (by rfl) hs (by repeat (first | exact List.mem_cons_self | apply List.mem_cons_of_mem)) (by rfl) (by rfl)) ?_
    refine WL.run (d := 6) (by rfl) (by rfl) ?_
    refine WL.callp hs (by rfl) (Yc.func (by rfl) fn68) (c_impl_IsAddr _ _ ⟨(Ph.old h_r.to.host hs), (Ph.old h_r.to.path hs)⟩) ?_
    clear hs; intro w hs
    refine WL.p (by rfl) (Yl.pickT (by rfl) (by rfl)) ?_
    refine WL.p (by rfl) (Yl.move (by rfl)) ?_
    refine WL.split (d := 11) (by rfl) (fun h2 => ?_) (fun h2 => ?_)
    ·
      refine WL.run (d := 11) (by rfl) (by rfl) ?_
      refine WL.p (by rfl) (Yl.fieldAddr fa30_2 (by rfl)) ?_
      refine WL.run (d := 11) (by rfl) (by rfl) ?_
      refine WL.p (by rfl) (Yl.loadB sca9 (by rfl) hs (by repeat (first | exact List.mem_cons_self | apply List.mem_cons_of_mem)) (by rfl)) ?_
      refine WL.run (d := 11) (by rfl) (by rfl) ?_
      refine WL.callp hs (by rfl) (Yc.func (by rfl) fn69) (c_impl_IsName _ _ (Ph.old h_r.frm hs)) ?_
      clear hs; intro w hs
      refine WL.p (by rfl) (Yl.pickT (by rfl) (by rfl)) ?_
      refine WL.p (by rfl) (Yl.move (by rfl)) ?_
      refine WL.split (d := 16) (by rfl) (fun h3 => ?_) (fun h3 => ?_)
      ·
        refine WL.run (d := 16) (by rfl) (by rfl) ?_
        refine WL.p (by rfl) (Yl.fieldAddr fa30_3 (by rfl)) ?_
        refine WL.run (d := 16) (by rfl) (by rfl) ?_
        refine WL.p (by rfl) (Yl.loadB sca9 (by rfl) hs (by repeat (first | exact List.mem_cons_self | apply List.mem_cons_of_mem)) (by rfl)) ?_
        refine WL.run (d := 16) (by rfl) (by rfl) ?_
        refine WL.p (by rfl) (Yl.eqs (by rfl) (by rfl)) ?_
        refine WL.run (d := 16) (by rfl) (by rfl) ?_
        refine WL.p (by rfl) (Yl.move (by rfl)) ?_
        refine WL.split (d := 20) (by rfl) (fun h4 => ?_) (fun h4 => ?_)
        ·
          replace h4 := of_decide_eq_true h4
          refine WL.skip (d := 20) (by rfl) (by rfl) (by rfl) (by rfl) ?_
          refine WL.skip (d := 20) (by rfl) (by rfl) (by rfl) (by rfl) ?_
          refine WL.skip (d := 20) (by rfl) (by rfl) (by rfl) (by rfl) ?_
          refine WL.run (d := 16) (by rfl) (by rfl) ?_
          refine WL.p (by rfl) (Yl.pickT (by rfl) (by rfl)) ?_
          refine WL.p (by rfl) (Yl.pickT (by rfl) (by rfl)) ?_
          refine WL.p (by rfl) (Yl.assign (by rfl)) ?_
          refine WL.next ?_
          refine WC.ret ?_
          refine fin1' rfl (by rfl) ?_
          refine RetP.mk hs ?_
          first
            | (rw [← inR_true] at h1; simp_all [TRequest.is]; done)
            | (rw [← inR_false] at h1; simp_all [TRequest.is])
        ·
          replace h4 := of_decide_eq_false h4
          refine WL.run (d := 20) (by rfl) (by rfl) ?_
          refine WL.p (by rfl) (Yl.fieldAddr fa30_3 (by rfl)) ?_
          refine WL.run (d := 20) (by rfl) (by rfl) ?_
          refine WL.p (by rfl) (Yl.loadB sca9 (by rfl) hs (by repeat (first | exact List.mem_cons_self | apply List.mem_cons_of_mem)) (by rfl)) ?_
          refine WL.run (d := 20) (by rfl) (by rfl) ?_
          refine WL.callp hs (by rfl) (Yc.func (by rfl) fn70) (c_impl_IsValue _ _ (Ph.old h_r.digest hs)) ?_
          clear hs; intro w hs
          refine WL.run (d := 16) (by rfl) (by rfl) ?_
          refine WL.p (by rfl) (Yl.pickF (by rfl) (by rfl)) ?_
          refine WL.p (by rfl) (Yl.pickT (by rfl) (by rfl)) ?_
          refine WL.p (by rfl) (Yl.assign (by rfl)) ?_
          refine WL.next ?_
          refine WC.ret ?_
          refine fin1' rfl (by rfl) ?_
          refine RetP.mk hs ?_
          first
            | (rw [← inR_true] at h1; simp_all [TRequest.is]; done)
            | (rw [← inR_false] at h1; simp_all [TRequest.is])
      ·
        refine WL.skip (d := 16) (by rfl) (by rfl) (by rfl) (by rfl) ?_
        refine WL.skip (d := 16) (by rfl) (by rfl) (by rfl) (by rfl) ?_
        refine WL.skip (d := 16) (by rfl) (by rfl) (by rfl) (by rfl) ?_
        refine WL.skip (d := 16) (by rfl) (by rfl) (by rfl) (by rfl) ?_
        refine WL.skipU (d := 20) (by rfl) (by rfl) (by rfl) ?_
        refine WL.skipU (d := 20) (by rfl) (by rfl) (by rfl) ?_
        refine WL.skipU (d := 20) (by rfl) (by rfl) (by rfl) ?_
        refine WL.skip (d := 16) (by rfl) (by rfl) (by rfl) (by rfl) ?_
        refine WL.p (by rfl) (Yl.pickF (by rfl) (by rfl)) ?_
        refine WL.p (by rfl) (Yl.assign (by rfl)) ?_
        refine WL.next ?_
        refine WC.ret ?_
        refine fin1' rfl (by rfl) ?_
        refine RetP.mk hs ?_
        first
          | (rw [← inR_true] at h1; simp_all [TRequest.is]; done)
          | (rw [← inR_false] at h1; simp_all [TRequest.is])
    ·
      refine WL.skip (d := 11) (by rfl) (by rfl) (by rfl) (by rfl) ?_
      refine WL.skip (d := 11) (by rfl) (by rfl) (by rfl) (by rfl) ?_
      refine WL.skip (d := 11) (by rfl) (by rfl) (by rfl) (by rfl) ?_
      refine WL.p (by rfl) (Yl.pickF (by rfl) (by rfl)) ?_
      refine WL.p (by rfl) (Yl.move (by rfl)) ?_
      refine WL.skip (d := 16) (by rfl) (by rfl) (by rfl) (by rfl) ?_
      refine WL.skip (d := 16) (by rfl) (by rfl) (by rfl) (by rfl) ?_
      refine WL.skip (d := 16) (by rfl) (by rfl) (by rfl) (by rfl) ?_
      refine WL.skip (d := 16) (by rfl) (by rfl) (by rfl) (by rfl) ?_
      refine WL.skipU (d := 20) (by rfl) (by rfl) (by rfl) ?_
      refine WL.skipU (d := 20) (by rfl) (by rfl) (by rfl) ?_
      refine WL.skipU (d := 20) (by rfl) (by rfl) (by rfl) ?_
      refine WL.skip (d := 16) (by rfl) (by rfl) (by rfl) (by rfl) ?_
      refine WL.p (by rfl) (Yl.pickF (by rfl) (by rfl)) ?_
      refine WL.p (by rfl) (Yl.assign (by rfl)) ?_
      refine WL.next ?_
      refine WC.ret ?_
      refine fin1' rfl (by rfl) ?_
      refine RetP.mk hs ?_
      first
        | (rw [← inR_true] at h1; simp_all [TRequest.is]; done)
        | (rw [← inR_false] at h1; simp_all [TRequest.is])
  ·
    replace h1 := inR_false.1 h1
    refine WL.skip (d := 6) (by rfl) (by rfl) (by rfl) (by rfl) ?_
    refine WL.skip (d := 6) (by rfl) (by rfl) (by rfl) (by rfl) ?_
    refine WL.skip (d := 6) (by rfl) (by rfl) (by rfl) (by rfl) ?_
    refine WL.p (by rfl) (Yl.pickF (by rfl) (by rfl)) ?_
    refine WL.p (by rfl) (Yl.move (by rfl)) ?_
    refine WL.skip (d := 11) (by rfl) (by rfl) (by rfl) (by rfl) ?_
    refine WL.skip (d := 11) (by rfl) (by rfl) (by rfl) (by rfl) ?_
    refine WL.skip (d := 11) (by rfl) (by rfl) (by rfl) (by rfl) ?_
    refine WL.p (by rfl) (Yl.pickF (by rfl) (by rfl)) ?_
    refine WL.p (by rfl) (Yl.move (by rfl)) ?_
    refine WL.skip (d := 16) (by rfl) (by rfl) (by rfl) (by rfl) ?_
    refine WL.skip (d := 16) (by rfl) (by rfl) (by rfl) (by rfl) ?_
    refine WL.skip (d := 16) (by rfl) (by rfl) (by rfl) (by rfl) ?_
    refine WL.skip (d := 16) (by rfl) (by rfl) (by rfl) (by rfl) ?_
    refine WL.skipU (d := 20) (by rfl) (by rfl) (by rfl) ?_
    refine WL.skipU (d := 20) (by rfl) (by rfl) (by rfl) ?_
    refine WL.skipU (d := 20) (by rfl) (by rfl) (by rfl) ?_
    refine WL.skip (d := 16) (by rfl) (by rfl) (by rfl) (by rfl) ?_
    refine WL.p (by rfl) (Yl.pickF (by rfl) (by rfl)) ?_
    refine WL.p (by rfl) (Yl.assign (by rfl)) ?_
    refine WL.next ?_
    refine WC.ret ?_
    refine fin1' rfl (by rfl) ?_
    refine RetP.mk hs ?_
    first
      | (rw [← inR_true] at h1; simp_all [TRequest.is]; done)
      | (rw [← inR_false] at h1; simp_all [TRequest.is])

theorem c_spec_CanGuess (r : TRequest) (w : World) (h_r : Ph.ok w r)  : Calls Try.prog 33 [.agg #[I r.kind, S r.to.host, S r.to.path, S r.frm, S r.digest]].toArray w (RetP w (Bo (r.is && (decide (r.kind ≠ 1) && decide (r.to.host = r.frm))))) := by
  refine enterN 18 Try.func33 rfl rfl rfl ?_
  have hs := Sat.start w
  refine WC.seq ?_
  refine WL.r (by rfl) (Yr.box hs (by rfl) (by rfl)) ?_
  clear hs; rintro _ w ⟨b1, rfl, hb, hs⟩; clear hb
  refine WL.p (by rfl) (Yl.assign (by rfl)) ?_
  refine WL.next ?_
  refine WC.seq ?_
  refine WL.p (by rfl) (Yl.loadAB agg30 (by rfl) hs (by repeat (first | exact List.mem_cons_self | apply List.mem_cons_of_mem)) (by rfl) (by rfl)) ?_
  refine WL.callp hs (by rfl) (Yc.func (by rfl) fn31) (c_spec_IsRequest _ _ ⟨(Ph.old h_r.kind hs), ⟨(Ph.old h_r.to.host hs), (Ph.old h_r.to.path hs)⟩, (Ph.old h_r.frm hs), (Ph.old h_r.digest hs)⟩) ?_
  clear hs; intro w hs
  refine WL.p (by rfl) (Yl.move (by rfl)) ?_
  refine WL.split (d := 5) (by rfl) (fun h1 => ?_) (fun h1 => ?_)
  ·
    refine WL.run (d := 5) (by rfl) (by rfl) ?_
    refine WL.p (by rfl) (Yl.fieldAddr fa30_0 (by rfl)) ?_
    refine WL.run (d := 5) (by rfl) (by rfl) ?_
    refine WL.p (by rfl) (Yl.loadB sca3 (by rfl) hs (by repeat (first | exact List.mem_cons_self | apply List.mem_cons_of_mem)) (by rfl)) ?_
    refine WL.run (d := 5) (by rfl) (by rfl) ?_
    refine WL.p (by rfl) (Yl.nei (by rfl) (by rfl)) ?_
    refine WL.p (by rfl) (Yl.pickT (by rfl) (by rfl)) ?_
    refine WL.p (by rfl) (Yl.move (by rfl)) ?_
    refine WL.split (d := 10) (by rfl) (fun h2 => ?_) (fun h2 => ?_)
    ·
      replace h2 := not_eq_true h2
      replace h2 := of_decide_eq_false h2
      refine WL.run (d := 10) (by rfl) (by rfl) ?_
      refine WL.p (by rfl) (Yl.fieldAddr fa30_1 (by rfl)) ?_
      refine WL.run (d := 10) (by rfl) (by rfl) ?_
      refine WL.p (by rfl) (Yl.fieldAddr fa28_0 (by rfl)) ?_
      refine WL.run (d := 10) (by rfl) (by rfl) ?_
      refine WL.p (by rfl) (Yl.loadB sca9 (by rfl) hs (by repeat (first | exact List.mem_cons_self | apply List.mem_cons_of_mem)) (by rfl)) ?_
      refine WL.run (d := 10) (by rfl) (by rfl) ?_
      refine WL.p (by rfl) (Yl.fieldAddr fa30_2 (by rfl)) ?_
      refine WL.run (d := 10) (by rfl) (by rfl) ?_
      refine WL.p (by rfl) (Yl.loadB sca9 (by rfl) hs (by repeat (first | exact List.mem_cons_self | apply List.mem_cons_of_mem)) (by rfl)) ?_
      refine WL.run (d := 10) (by rfl) (by rfl) ?_
      refine WL.p (by rfl) (Yl.eqs (by rfl) (by rfl)) ?_
      refine WL.p (by rfl) (Yl.pickT (by rfl) (by rfl)) ?_
      refine WL.p (by rfl) (Yl.assign (by rfl)) ?_
      refine WL.next ?_
      refine WC.ret ?_
      refine fin1' rfl (by rfl) ?_
      refine RetP.mk hs ?_
      simp_all
    ·
      replace h2 := not_eq_false h2
      replace h2 := of_decide_eq_true h2
      refine WL.skip (d := 10) (by rfl) (by rfl) (by rfl) (by rfl) ?_
      refine WL.skip (d := 10) (by rfl) (by rfl) (by rfl) (by rfl) ?_
      refine WL.skip (d := 10) (by rfl) (by rfl) (by rfl) (by rfl) ?_
      refine WL.skip (d := 10) (by rfl) (by rfl) (by rfl) (by rfl) ?_
      refine WL.skip (d := 10) (by rfl) (by rfl) (by rfl) (by rfl) ?_
      refine WL.skip (d := 10) (by rfl) (by rfl) (by rfl) (by rfl) ?_
      refine WL.p (by rfl) (Yl.pickF (by rfl) (by rfl)) ?_
      refine WL.p (by rfl) (Yl.assign (by rfl)) ?_
      refine WL.next ?_
      refine WC.ret ?_
      refine fin1' rfl (by rfl) ?_
      refine RetP.mk hs ?_
      simp_all
  ·
    refine WL.skip (d := 5) (by rfl) (by rfl) (by rfl) (by rfl) ?_
    refine WL.skip (d := 5) (by rfl) (by rfl) (by rfl) (by rfl) ?_
    refine WL.skip (d := 5) (by rfl) (by rfl) (by rfl) (by rfl) ?_
    refine WL.p (by rfl) (Yl.pickF (by rfl) (by rfl)) ?_
    refine WL.p (by rfl) (Yl.move (by rfl)) ?_
    refine WL.skip (d := 10) (by rfl) (by rfl) (by rfl) (by rfl) ?_
    refine WL.skip (d := 10) (by rfl) (by rfl) (by rfl) (by rfl) ?_
    refine WL.skip (d := 10) (by rfl) (by rfl) (by rfl) (by rfl) ?_
    refine WL.skip (d := 10) (by rfl) (by rfl) (by rfl) (by rfl) ?_
    refine WL.skip (d := 10) (by rfl) (by rfl) (by rfl) (by rfl) ?_
    refine WL.skip (d := 10) (by rfl) (by rfl) (by rfl) (by rfl) ?_
    refine WL.p (by rfl) (Yl.pickF (by rfl) (by rfl)) ?_
    refine WL.p (by rfl) (Yl.assign (by rfl)) ?_
    refine WL.next ?_
    refine WC.ret ?_
    refine fin1' rfl (by rfl) ?_
    refine RetP.mk hs ?_
    simp_all

theorem c_impl_CanGuess (r : TRequest) (w : World) (h_r : Ph.ok w r)  : Calls Try.prog 34 [.agg #[I r.kind, S r.to.host, S r.to.path, S r.frm, S r.digest]].toArray w (RetP w (Bo (r.is && (decide (r.kind ≠ 1) && decide (r.to.host = r.frm))))) := by
  refine enterN 18 Try.func34 rfl rfl rfl ?_
  have hs := Sat.start w
  refine WC.seq ?_
  refine WL.r (by rfl) (Yr.box hs (by rfl) (by rfl)) ?_
  clear hs; rintro _ w ⟨b1, rfl, hb, hs⟩; clear hb
  refine WL.p (by rfl) (Yl.assign (by rfl)) ?_
  refine WL.next ?_
  refine WC.seq ?_
  refine WL.p (by rfl) (Yl.loadAB agg30 (by rfl) hs (by repeat (first | exact List.mem_cons_self | apply List.mem_cons_of_mem)) (by rfl) (by rfl)) ?_
  refine WL.callp hs (by rfl) (Yc.func (by rfl) fn32) (c_impl_IsRequest _ _ ⟨(Ph.old h_r.kind hs), ⟨(Ph.old h_r.to.host hs), (Ph.old h_r.to.path hs)⟩, (Ph.old h_r.frm hs), (Ph.old h_r.digest hs)⟩) ?_
  clear hs; intro w hs
  refine WL.p (by rfl) (Yl.move (by rfl)) ?_
  refine WL.split (d := 5) (by rfl) (fun h1 => ?_) (fun h1 => ?_)
  ·
    refine WL.run (d := 5) (by rfl) (by rfl) ?_
    refine WL.p (by rfl) (Yl.fieldAddr fa30_0 (by rfl)) ?_
    refine WL.run (d := 5) (by rfl) (by rfl) ?_
    refine WL.p (by rfl) (Yl.loadB sca3 (by rfl) hs (by repeat (first | exact List.mem_cons_self | apply List.mem_cons_of_mem)) (by rfl)) ?_
    refine WL.run (d := 5) (by rfl) (by rfl) ?_
    refine WL.p (by rfl) (Yl.nei (by rfl) (by rfl)) ?_
    refine WL.p (by rfl) (Yl.pickT (by rfl) (by rfl)) ?_
    refine WL.p (by rfl) (Yl.move (by rfl)) ?_
    refine WL.split (d := 10) (by rfl) (fun h2 => ?_) (fun h2 => ?_)
    ·
      replace h2 := not_eq_true h2
      replace h2 := of_decide_eq_false h2
      refine WL.run (d := 10) (by rfl) (by rfl) ?_
      refine WL.p (by rfl) (Yl.fieldAddr fa30_1 (by rfl)) ?_
      refine WL.run (d := 10) (by rfl) (by rfl) ?_
      refine WL.p (by rfl) (Yl.fieldAddr fa28_0 (by rfl)) ?_
      refine WL.run (d := 10) (by rfl) (by rfl) ?_
      refine WL.p (by rfl) (Yl.loadB sca9 (by rfl) hs (by repeat (first | exact List.mem_cons_self | apply List.mem_cons_of_mem)) (by rfl)) ?_
      refine WL.run (d := 10) (by rfl) (by rfl) ?_
      refine WL.p (by rfl) (Yl.fieldAddr fa30_2 (by rfl)) ?_
      refine WL.run (d := 10) (by rfl) (by rfl) ?_
      refine WL.p (by rfl) (Yl.loadB sca9 (by rfl) hs (by repeat (first | exact List.mem_cons_self | apply List.mem_cons_of_mem)) (by rfl)) ?_
      refine WL.run (d := 10) (by rfl) (by rfl) ?_
      refine WL.p (by rfl) (Yl.eqs (by rfl) (by rfl)) ?_
      refine WL.p (by rfl) (Yl.pickT (by rfl) (by rfl)) ?_
      refine WL.p (by rfl) (Yl.assign (by rfl)) ?_
      refine WL.next ?_
      refine WC.ret ?_
      refine fin1' rfl (by rfl) ?_
      refine RetP.mk hs ?_
      simp_all
    ·
      replace h2 := not_eq_false h2
      replace h2 := of_decide_eq_true h2
      refine WL.skip (d := 10) (by rfl) (by rfl) (by rfl) (by rfl) ?_
      refine WL.skip (d := 10) (by rfl) (by rfl) (by rfl) (by rfl) ?_
      refine WL.skip (d := 10) (by rfl) (by rfl) (by rfl) (by rfl) ?_
      refine WL.skip (d := 10) (by rfl) (by rfl) (by rfl) (by rfl) ?_
      refine WL.skip (d := 10) (by rfl) (by rfl) (by rfl) (by rfl) ?_
      refine WL.skip (d := 10) (by rfl) (by rfl) (by rfl) (by rfl) ?_
      refine WL.p (by rfl) (Yl.pickF (by rfl) (by rfl)) ?_
      refine WL.p (by rfl) (Yl.assign (by rfl)) ?_
      refine WL.next ?_
      refine WC.ret ?_
      refine fin1' rfl (by rfl) ?_
      refine RetP.mk hs ?_
      simp_all
  ·
    refine WL.skip (d := 5) (by rfl) (by rfl) (by rfl) (by rfl) ?_
    refine WL.skip (d := 5) (by rfl) (by rfl) (by rfl) (by rfl) ?_
    refine WL.skip (d := 5) (by rfl) (by rfl) (by rfl) (by rfl) ?_
    refine WL.p (by rfl) (Yl.pickF (by rfl) (by rfl)) ?_
    refine WL.p (by rfl) (Yl.move (by rfl)) ?_
    refine WL.skip (d := 10) (by rfl) (by rfl) (by rfl) (by rfl) ?_
    refine WL.skip (d := 10) (by rfl) (by rfl) (by rfl) (by rfl) ?_
    refine WL.skip (d := 10) (by rfl) (by rfl) (by rfl) (by rfl) ?_
    refine WL.skip (d := 10) (by rfl) (by rfl) (by rfl) (by rfl) ?_
    refine WL.skip (d := 10) (by rfl) (by rfl) (by rfl) (by rfl) ?_
    refine WL.skip (d := 10) (by rfl) (by rfl) (by rfl) (by rfl) ?_
    refine WL.p (by rfl) (Yl.pickF (by rfl) (by rfl)) ?_
    refine WL.p (by rfl) (Yl.assign (by rfl)) ?_
    refine WL.next ?_
    refine WC.ret ?_
    refine fin1' rfl (by rfl) ?_
    refine RetP.mk hs ?_
    simp_all

theorem c_spec_IsPassive (l : (Sl TLine)) (w : World) (h_l : Ph.ok w l)  : Calls Try.prog 22 [Sl.v l].toArray w (RetP w (Bo (isPassive l.l))) := by
  have hw := h_l.lt
  refine enterN 24 Try.func22 rfl rfl rfl ?_
  have hs := Sat.start w
  refine WC.seq ?_
  refine WL.p (by rfl) (Yl.assign (by rfl)) ?_
  refine WL.next ?_
  refine WC.seq' ?_
  refine WC.seq ?_
  refine WL.p (by rfl) (Yl.assign (by rfl)) ?_
  refine WL.next ?_
  refine WC.block ?_
  refine WC.loopC (ι := Nat) (fun k => l.l.length - k) (fun k => [(3, I (k : Int))]) (fun _ => []) (fun k => isPassive l.l = isPassive (l.l.drop k)) [(0, _)] 0 (hs) ⟨by rfl, trivial⟩ ⟨by rfl, trivial⟩ ?_ ?_
  ·
    simp
  clear hs; rintro k w hJ hs
  simp only [List.nil_append] at hs
  refine WC.seq' ?_
  refine WC.seq ?_
  refine WL.p (by rfl) (Yl.move (by rfl)) ?_
  refine WL.p (by rfl) (Yl.move (by rfl)) ?_
  refine WL.p (by rfl) (Yl.len_sl slu38 (by rfl)) ?_
  refine WL.p (by rfl) (Yl.lss (by rfl) (by rfl)) ?_
  refine WL.next ?_
  refine WC.condS (by rfl) (fun h1 => ?_) (fun h1 => ?_)
  ·
    replace h1 := of_decide_eq_true h1
    obtain ⟨d, hd⟩ := exists_get (l := l.l) (k := k) (by omega)
    rw [drop_cons hd] at hJ
    refine WC.skipn ?_
    refine WC.seq' ?_
    refine WC.block ?_
    refine WC.seq ?_
    refine WL.p (by rfl) (Yl.move (by rfl)) ?_
    refine WL.p (by rfl) (Yl.move (by rfl)) ?_
    refine WL.p (by rfl) (Yl.indexAddr slt38 (by rfl) (by rfl) (Ph.old h_l hs) (by rfl) (hd)) ?_
    refine WL.p (by rfl) (Yl.fieldAddr fa85_0 (by rfl)) ?_
    refine WL.p (by rfl) (Yl.loadC sca3 (by rfl) (Sl.Ok.at_ (Ph.old h_l hs) (by assumption)).2 (by rfl)) ?_
    refine WL.p (by rfl) (Yl.eqi (by rfl) (by rfl)) ?_
    refine WL.p (by rfl) (Yl.move (by rfl)) ?_
    refine WL.split (d := 16) (by rfl) (fun h2 => ?_) (fun h2 => ?_)
    ·
      replace h2 := of_decide_eq_true h2
      refine WL.skip (d := 16) (by rfl) (by rfl) (by rfl) (by rfl) ?_
      refine WL.skip (d := 16) (by rfl) (by rfl) (by rfl) (by rfl) ?_
      refine WL.skip (d := 16) (by rfl) (by rfl) (by rfl) (by rfl) ?_
      refine WL.skip (d := 16) (by rfl) (by rfl) (by rfl) (by rfl) ?_
      refine WL.skip (d := 16) (by rfl) (by rfl) (by rfl) (by rfl) ?_
      refine WL.skip (d := 16) (by rfl) (by rfl) (by rfl) (by rfl) ?_
      refine WL.p (by rfl) (Yl.pickT (by rfl) (by rfl)) ?_
      refine WL.next ?_
      refine WC.condT (by rfl) ?_
      refine WC.seq ?_
      refine WL.p (by rfl) (Yl.assign (by rfl)) ?_
      refine WL.next ?_
      refine WC.ret ?_
      refine At.blockret ?_
      refine At.thenret ?_
      refine At.thenret ?_
      refine At.blockret ?_
      refine At.thenret ?_
      refine fin1' rfl (by rfl) ?_
      refine RetP.mk hs ?_
      first
        | (simp [isPassive, hJ]; done)
        | (simp [isPassive, hJ]; omega)
        | simp_all [isPassive, hJ]
        | simp_all [isPassive]
    ·
      replace h2 := of_decide_eq_false h2
      refine WL.run (d := 16) (by rfl) (by rfl) ?_
      refine WL.p (by rfl) (Yl.move (by rfl)) ?_
      refine WL.run (d := 16) (by rfl) (by rfl) ?_
      refine WL.p (by rfl) (Yl.move (by rfl)) ?_
      refine WL.run (d := 16) (by rfl) (by rfl) ?_
      refine WL.p (by rfl) (Yl.indexAddr slt38 (by rfl) (by rfl) (Ph.old h_l hs) (by rfl) (hd)) ?_
      refine WL.run (d := 16) (by rfl) (by rfl) ?_
      refine WL.p (by rfl) (Yl.fieldAddr fa85_0 (by rfl)) ?_
      refine WL.run (d := 16) (by rfl) (by rfl) ?_
      refine WL.p (by rfl) (Yl.loadC sca3 (by rfl) (Sl.Ok.at_ (Ph.old h_l hs) (by assumption)).2 (by rfl)) ?_
      refine WL.run (d := 16) (by rfl) (by rfl) ?_
      refine WL.p (by rfl) (Yl.eqi (by rfl) (by rfl)) ?_
      refine WL.p (by rfl) (Yl.pickF (by rfl) (by rfl)) ?_
      refine WL.next ?_
      refine WC.condS (by rfl) (fun h3 => ?_) (fun h3 => ?_)
      ·
        replace h3 := of_decide_eq_true h3
        refine WC.seq ?_
        refine WL.p (by rfl) (Yl.assign (by rfl)) ?_
        refine WL.next ?_
        refine WC.ret ?_
        refine At.blockret ?_
        refine At.thenret ?_
        refine At.thenret ?_
        refine At.blockret ?_
        refine At.thenret ?_
        refine fin1' rfl (by rfl) ?_
        refine RetP.mk hs ?_
        first
          | (simp [isPassive, hJ]; done)
          | (simp [isPassive, hJ]; omega)
          | simp_all [isPassive, hJ]
          | simp_all [isPassive]
      ·
        replace h3 := of_decide_eq_false h3
        refine WC.skip ?_
        refine At.blocknormal ?_
        refine At.then_ ?_
        refine WC.region ?_
        refine WL.p (by rfl) (Yl.move (by rfl)) ?_
        refine WL.p (by rfl) (Yl.add (by rfl) (by rfl) (by omega)) ?_
        refine WL.p (by rfl) (Yl.assign (by rfl)) ?_
        refine WL.nil ?_
        refine At.roundC (k + 1) (hs.only (by repeat (first | exact Sel.nil | (apply Sel.cons; (repeat (first | exact Ext.here | apply Ext.there)))))) ⟨by rfl, trivial⟩ ⟨by rfl, trivial⟩ ?_ ?_
        ·
          omega
        ·
          rw [hJ]; simp_all [isPassive]
  ·
    replace h1 := of_decide_eq_false h1
    rw [drop_out (l := l.l) (by omega)] at hJ
    refine WC.exit ?_
    refine At.thenexit ?_
    refine At.thenexit ?_
    refine At.blockexit ?_
    refine At.then_ ?_
    refine WC.seq ?_
    refine WL.p (by rfl) (Yl.assign (by rfl)) ?_
    refine WL.next ?_
    refine WC.ret ?_
    refine fin1' rfl (by rfl) ?_
    refine RetP.mk hs ?_
    first
      | (simp [isPassive, hJ]; done)
      | (simp [isPassive, hJ]; omega)
      | simp_all [isPassive, hJ]
      | simp_all [isPassive]

theorem c_impl_IsPassive (l : (Sl TLine)) (w : World) (h_l : Ph.ok w l)  : Calls Try.prog 24 [Sl.v l].toArray w (RetP w (Bo (isPassive l.l))) := by
  have hw := h_l.lt
  refine enterN 20 Try.func24 rfl rfl rfl ?_
  have hs := Sat.start w
  refine WC.seq ?_
  refine WL.p (by rfl) (Yl.assign (by rfl)) ?_
  refine WL.next ?_
  refine WC.seq' ?_
  refine WC.seq ?_
  refine WL.p (by rfl) (Yl.move (by rfl)) ?_
  refine WL.p (by rfl) (Yl.len_sl slu38 (by rfl)) ?_
  refine WL.p (by rfl) (Yl.move (by rfl)) ?_
  refine WL.next ?_
  refine WC.block ?_
  refine WC.loopC (ι := Nat) (fun k => l.l.length - k) (fun k => [(7, I (k : Int))]) (fun _ => []) (fun k => isPassive l.l = isPassive (l.l.drop k)) [(0, _), (5, _), (6, _)] 0 (hs) ⟨by rfl, by rfl, by rfl, trivial⟩ ⟨by rfl, trivial⟩ ?_ ?_
  ·
    simp
  clear hs; rintro k w hJ hs
  simp only [List.nil_append] at hs
  refine WC.seq ?_
  refine WL.p (by rfl) (Yl.lss (by rfl) (by rfl)) ?_
  refine WL.next ?_
  refine WC.seq' ?_
  refine WC.condS (by rfl) (fun h1 => ?_) (fun h1 => ?_)
  ·
    replace h1 := of_decide_eq_true h1
    obtain ⟨d, hd⟩ := exists_get (l := l.l) (k := k) (by omega)
    rw [drop_cons hd] at hJ
    refine WC.skipn ?_
    refine WC.seq' ?_
    refine WC.block ?_
    refine WC.seq ?_
    refine WL.p (by rfl) (Yl.indexAddr slt38 (by rfl) (by rfl) (Ph.old h_l hs) (by rfl) (hd)) ?_
    refine WL.p (by rfl) (Yl.loadA agg85 (by rfl) (Sl.Ok.at_ (Ph.old h_l hs) (by assumption)).2 (by rfl)) ?_
    refine WL.r (by rfl) (Yr.alloc hs zt85) ?_
    clear hs; rintro _ w ⟨b1, rfl, hb, hs⟩; clear hb
    refine WL.s (Yr.storeB hs (by rfl) (by rfl) (by rfl) (by repeat (first | exact Repl.here | apply Repl.there)) (by repeat (first | (apply SetAt.here; repeat (first | exact Over.nil | apply Over.cons)) | apply SetAt.there)) (by rfl) (by exact szf85)) ?_
    clear hs; rintro _ w hs
    refine WL.next ?_
    refine WC.seq ?_
    refine WL.p (by rfl) (Yl.fieldAddr fa85_0 (by rfl)) ?_
    refine WL.p (by rfl) (Yl.loadB sca3 (by rfl) hs (by repeat (first | exact List.mem_cons_self | apply List.mem_cons_of_mem)) (by rfl)) ?_
    refine WL.p (by rfl) (Yl.eqi (by rfl) (by rfl)) ?_
    refine WL.p (by rfl) (Yl.move (by rfl)) ?_
    refine WL.split (d := 14) (by rfl) (fun h2 => ?_) (fun h2 => ?_)
    ·
      replace h2 := of_decide_eq_true h2
      refine WL.skip (d := 14) (by rfl) (by rfl) (by rfl) (by rfl) ?_
      refine WL.skip (d := 14) (by rfl) (by rfl) (by rfl) (by rfl) ?_
      refine WL.skip (d := 14) (by rfl) (by rfl) (by rfl) (by rfl) ?_
      refine WL.p (by rfl) (Yl.pickT (by rfl) (by rfl)) ?_
      refine WL.next ?_
      refine WC.condT (by rfl) ?_
      refine WC.seq ?_
      refine WL.p (by rfl) (Yl.assign (by rfl)) ?_
      refine WL.next ?_
      refine WC.ret ?_
      refine At.blockret ?_
      refine At.thenret ?_
      refine At.thenret ?_
      refine At.blockret ?_
      refine At.thenret ?_
      refine fin1' rfl (by rfl) ?_
      refine RetP.mk hs ?_
      first
        | (simp [isPassive, hJ]; done)
        | (simp [isPassive, hJ]; omega)
        | simp_all [isPassive, hJ]
        | simp_all [isPassive]
    ·
      replace h2 := of_decide_eq_false h2
      refine WL.run (d := 14) (by rfl) (by rfl) ?_
      refine WL.p (by rfl) (Yl.fieldAddr fa85_0 (by rfl)) ?_
      refine WL.run (d := 14) (by rfl) (by rfl) ?_
      refine WL.p (by rfl) (Yl.loadB sca3 (by rfl) hs (by repeat (first | exact List.mem_cons_self | apply List.mem_cons_of_mem)) (by rfl)) ?_
      refine WL.run (d := 14) (by rfl) (by rfl) ?_
      refine WL.p (by rfl) (Yl.eqi (by rfl) (by rfl)) ?_
      refine WL.p (by rfl) (Yl.pickF (by rfl) (by rfl)) ?_
      refine WL.next ?_
      refine WC.condS (by rfl) (fun h3 => ?_) (fun h3 => ?_)
      ·
        replace h3 := of_decide_eq_true h3
        refine WC.seq ?_
        refine WL.p (by rfl) (Yl.assign (by rfl)) ?_
        refine WL.next ?_
        refine WC.ret ?_
        refine At.blockret ?_
        refine At.thenret ?_
        refine At.thenret ?_
        refine At.blockret ?_
        refine At.thenret ?_
        refine fin1' rfl (by rfl) ?_
        refine RetP.mk hs ?_
        first
          | (simp [isPassive, hJ]; done)
          | (simp [isPassive, hJ]; omega)
          | simp_all [isPassive, hJ]
          | simp_all [isPassive]
      ·
        replace h3 := of_decide_eq_false h3
        refine WC.skip ?_
        refine At.blocknormal ?_
        refine At.then_ ?_
        refine WC.region ?_
        refine WL.p (by rfl) (Yl.add (by rfl) (by rfl) (by omega)) ?_
        refine WL.p (by rfl) (Yl.move (by rfl)) ?_
        refine WL.nil ?_
        refine At.roundC (k + 1) (hs.only (by repeat (first | exact Sel.nil | (apply Sel.cons; (repeat (first | exact Ext.here | apply Ext.there)))))) ⟨by rfl, by rfl, by rfl, trivial⟩ ⟨by rfl, trivial⟩ ?_ ?_
        ·
          omega
        ·
          rw [hJ]; simp_all [isPassive]
  ·
    replace h1 := of_decide_eq_false h1
    rw [drop_out (l := l.l) (by omega)] at hJ
    refine WC.exit ?_
    refine At.thenexit ?_
    refine At.thenexit ?_
    refine At.blockexit ?_
    refine At.then_ ?_
    refine WC.seq ?_
    refine WL.p (by rfl) (Yl.assign (by rfl)) ?_
    refine WL.next ?_
    refine WC.ret ?_
    refine fin1' rfl (by rfl) ?_
    refine RetP.mk hs ?_
    first
      | (simp [isPassive, hJ]; done)
      | (simp [isPassive, hJ]; omega)
      | simp_all [isPassive, hJ]
      | simp_all [isPassive]

theorem c_laws_szAddr (a : TAddr) (left : Int) (w : World) (h_a : Ph.ok w a) (hl0 : 0 ≤ left) (hl1 : left ≤ 1048576) : Calls Try.prog 48 [.agg #[S a.host, S a.path], I left].toArray w (RetP w (I (lessN left a.size))) := by
  have hb0 : a.host.length ≤ 9223372036854775807 := h_a.host
  have hb1 : a.path.length ≤ 9223372036854775807 := h_a.path
  refine enterN 20 Try.func48 rfl rfl rfl ?_
  have hs := Sat.start w
  refine WC.seq ?_
  refine WL.r (by rfl) (Yr.box hs (by rfl) (by rfl)) ?_
  clear hs; rintro _ w ⟨b1, rfl, hb, hs⟩; clear hb
  refine WL.p (by rfl) (Yl.assign (by rfl)) ?_
  refine WL.next ?_
  refine WC.seq ?_
  refine WL.p (by rfl) (Yl.move (by rfl)) ?_
  refine WL.p (by rfl) (Yl.fieldAddr fa23_0 (by rfl)) ?_
  refine WL.p (by rfl) (Yl.loadB sca9 (by rfl) hs (by repeat (first | exact List.mem_cons_self | apply List.mem_cons_of_mem)) (by rfl)) ?_
  refine WL.p (by rfl) (Yl.len_str str9 (by rfl)) ?_
  refine WL.p (by rfl) (Yl.sub_ (by rfl) (by rfl) (by omega)) ?_
  refine WL.p (by rfl) (Yl.assign (by rfl)) ?_
  refine WL.next ?_
  refine WC.seq' ?_
  refine WC.seq ?_
  refine WL.p (by rfl) (Yl.move (by rfl)) ?_
  refine WL.p (by rfl) (Yl.lss (by rfl) (by rfl)) ?_
  refine WL.next ?_
  refine WC.condS (by rfl) (fun h1 => ?_) (fun h1 => ?_)
  ·
    replace h1 := of_decide_eq_true h1
    refine WC.seq ?_
    refine WL.p (by rfl) (Yl.assign (by rfl)) ?_
    refine WL.next ?_
    refine WC.ret ?_
    refine At.thenret ?_
    refine fin1' rfl (by rfl) ?_
    refine RetP.mk hs ?_
    first
      | (rw [lessN_lt (left := left) (n := a.size) (by simp only [TAddr.size]; omega)]; done)
      | (rw [lessN_ge (left := left) (n := a.size) (by simp only [TAddr.size]; omega)]; try exact congrArg I (by simp only [TAddr.size] <;> omega))
  ·
    replace h1 := of_decide_eq_false h1
    refine WC.skipn ?_
    refine WC.seq ?_
    refine WL.p (by rfl) (Yl.move (by rfl)) ?_
    refine WL.p (by rfl) (Yl.fieldAddr fa23_1 (by rfl)) ?_
    refine WL.p (by rfl) (Yl.loadB sca9 (by rfl) hs (by repeat (first | exact List.mem_cons_self | apply List.mem_cons_of_mem)) (by rfl)) ?_
    refine WL.p (by rfl) (Yl.len_str str9 (by rfl)) ?_
    refine WL.p (by rfl) (Yl.sub_ (by rfl) (by rfl) (by omega)) ?_
    refine WL.p (by rfl) (Yl.assign (by rfl)) ?_
    refine WL.next ?_
    refine WC.seq' ?_
    refine WC.seq ?_
    refine WL.p (by rfl) (Yl.move (by rfl)) ?_
    refine WL.p (by rfl) (Yl.lss (by rfl) (by rfl)) ?_
    refine WL.next ?_
    refine WC.condS (by rfl) (fun h2 => ?_) (fun h2 => ?_)
    ·
      replace h2 := of_decide_eq_true h2
      refine WC.seq ?_
      refine WL.p (by rfl) (Yl.assign (by rfl)) ?_
      refine WL.next ?_
      refine WC.ret ?_
      refine At.thenret ?_
      refine fin1' rfl (by rfl) ?_
      refine RetP.mk hs ?_
      first
        | (rw [lessN_lt (left := left) (n := a.size) (by simp only [TAddr.size]; omega)]; done)
        | (rw [lessN_ge (left := left) (n := a.size) (by simp only [TAddr.size]; omega)]; try exact congrArg I (by simp only [TAddr.size] <;> omega))
    ·
      replace h2 := of_decide_eq_false h2
      refine WC.skipn ?_
      refine WC.seq ?_
      refine WL.p (by rfl) (Yl.move (by rfl)) ?_
      refine WL.p (by rfl) (Yl.assign (by rfl)) ?_
      refine WL.next ?_
      refine WC.ret ?_
      refine fin1' rfl (by rfl) ?_
      refine RetP.mk hs ?_
      first
        | (rw [lessN_lt (left := left) (n := a.size) (by simp only [TAddr.size]; omega)]; done)
        | (rw [lessN_ge (left := left) (n := a.size) (by simp only [TAddr.size]; omega)]; try exact congrArg I (by simp only [TAddr.size] <;> omega))

theorem c_laws_szRequest (a : TRequest) (left : Int) (w : World) (h_a : Ph.ok w a) (hl0 : 0 ≤ left) (hl1 : left ≤ 1048576) : Calls Try.prog 15 [.agg #[I a.kind, S a.to.host, S a.to.path, S a.frm, S a.digest], I left].toArray w (RetP w (I (lessN left a.size))) := by
  have hb2 : a.frm.length ≤ 9223372036854775807 := h_a.frm
  have hb3 : a.digest.length ≤ 9223372036854775807 := h_a.digest
  refine enterN 26 Try.func15 rfl rfl rfl ?_
  have hs := Sat.start w
  refine WC.seq ?_
  refine WL.r (by rfl) (Yr.box hs (by rfl) (by rfl)) ?_
  clear hs; rintro _ w ⟨b1, rfl, hb, hs⟩; clear hb
  refine WL.p (by rfl) (Yl.assign (by rfl)) ?_
  refine WL.next ?_
  refine WC.seq ?_
  refine WL.p (by rfl) (Yl.fieldAddr fa25_1 (by rfl)) ?_
  refine WL.p (by rfl) (Yl.loadAB agg23 (by rfl) hs (by repeat (first | exact List.mem_cons_self | apply List.mem_cons_of_mem)) (by rfl) (by rfl)) ?_
  refine WL.p (by rfl) (Yl.move (by rfl)) ?_
  refine WL.callp hs (by rfl) (Yc.func (by rfl) fn48) (c_laws_szAddr _ _ _ ⟨(Ph.old h_a.to.host hs), (Ph.old h_a.to.path hs)⟩ (by first | assumption | omega | (simp only [TRequest.size]; omega)) (by first | assumption | omega | (simp only [TRequest.size]; omega))) ?_
  clear hs; intro w hs
  refine WL.p (by rfl) (Yl.assign (by rfl)) ?_
  refine WL.next ?_
  refine WC.seq' ?_
  refine WC.seq ?_
  refine WL.p (by rfl) (Yl.move (by rfl)) ?_
  refine WL.p (by rfl) (Yl.lss (by rfl) (by rfl)) ?_
  refine WL.next ?_
  refine WC.condS (by rfl) (fun h1 => ?_) (fun h1 => ?_)
  ·
    replace h1 := lessN_neg (of_decide_eq_true h1)
    refine WC.seq ?_
    refine WL.p (by rfl) (Yl.assign (by rfl)) ?_
    refine WL.next ?_
    refine WC.ret ?_
    refine At.thenret ?_
    refine fin1' rfl (by rfl) ?_
    refine RetP.mk hs ?_
    first
      | (rw [lessN_lt (left := left) (n := a.size) (by simp only [TRequest.size]; omega)]; done)
      | (rw [lessN_ge (left := left) (n := a.size) (by simp only [TRequest.size]; omega)]; try exact congrArg I (by simp only [TRequest.size] <;> omega))
  ·
    replace h1 := lessN_nn (by omega) (of_decide_eq_false h1)
    refine WC.skipn ?_
    refine WC.seq ?_
    refine WL.p (by rfl) (Yl.move (by rfl)) ?_
    refine WL.p (by rfl) (Yl.fieldAddr fa25_2 (by rfl)) ?_
    refine WL.p (by rfl) (Yl.loadB sca9 (by rfl) hs (by repeat (first | exact List.mem_cons_self | apply List.mem_cons_of_mem)) (by rfl)) ?_
    refine WL.p (by rfl) (Yl.len_str str9 (by rfl)) ?_
    refine WL.p (by rfl) (Yl.sub_ (by rfl) (by rfl) (by omega)) ?_
    refine WL.p (by rfl) (Yl.assign (by rfl)) ?_
    refine WL.next ?_
    refine WC.seq' ?_
    refine WC.seq ?_
    refine WL.p (by rfl) (Yl.move (by rfl)) ?_
    refine WL.p (by rfl) (Yl.lss (by rfl) (by rfl)) ?_
    refine WL.next ?_
    refine WC.condS (by rfl) (fun h2 => ?_) (fun h2 => ?_)
    ·
      replace h2 := of_decide_eq_true h2
      refine WC.seq ?_
      refine WL.p (by rfl) (Yl.assign (by rfl)) ?_
      refine WL.next ?_
      refine WC.ret ?_
      refine At.thenret ?_
      refine fin1' rfl (by rfl) ?_
      refine RetP.mk hs ?_
      first
        | (rw [lessN_lt (left := left) (n := a.size) (by simp only [TRequest.size]; omega)]; done)
        | (rw [lessN_ge (left := left) (n := a.size) (by simp only [TRequest.size]; omega)]; try exact congrArg I (by simp only [TRequest.size] <;> omega))
    ·
      replace h2 := of_decide_eq_false h2
      refine WC.skipn ?_
      refine WC.seq ?_
      refine WL.p (by rfl) (Yl.move (by rfl)) ?_
      refine WL.p (by rfl) (Yl.fieldAddr fa25_3 (by rfl)) ?_
      refine WL.p (by rfl) (Yl.loadB sca9 (by rfl) hs (by repeat (first | exact List.mem_cons_self | apply List.mem_cons_of_mem)) (by rfl)) ?_
      refine WL.p (by rfl) (Yl.len_str str9 (by rfl)) ?_
      refine WL.p (by rfl) (Yl.sub_ (by rfl) (by rfl) (by omega)) ?_
      refine WL.p (by rfl) (Yl.assign (by rfl)) ?_
      refine WL.next ?_
      refine WC.seq' ?_
      refine WC.seq ?_
      refine WL.p (by rfl) (Yl.move (by rfl)) ?_
      refine WL.p (by rfl) (Yl.lss (by rfl) (by rfl)) ?_
      refine WL.next ?_
      refine WC.condS (by rfl) (fun h3 => ?_) (fun h3 => ?_)
      ·
        replace h3 := of_decide_eq_true h3
        refine WC.seq ?_
        refine WL.p (by rfl) (Yl.assign (by rfl)) ?_
        refine WL.next ?_
        refine WC.ret ?_
        refine At.thenret ?_
        refine fin1' rfl (by rfl) ?_
        refine RetP.mk hs ?_
        first
          | (rw [lessN_lt (left := left) (n := a.size) (by simp only [TRequest.size]; omega)]; done)
          | (rw [lessN_ge (left := left) (n := a.size) (by simp only [TRequest.size]; omega)]; try exact congrArg I (by simp only [TRequest.size] <;> omega))
      ·
        replace h3 := of_decide_eq_false h3
        refine WC.skipn ?_
        refine WC.seq ?_
        refine WL.p (by rfl) (Yl.move (by rfl)) ?_
        refine WL.p (by rfl) (Yl.assign (by rfl)) ?_
        refine WL.next ?_
        refine WC.ret ?_
        refine fin1' rfl (by rfl) ?_
        refine RetP.mk hs ?_
        first
          | (rw [lessN_lt (left := left) (n := a.size) (by simp only [TRequest.size]; omega)]; done)
          | (rw [lessN_ge (left := left) (n := a.size) (by simp only [TRequest.size]; omega)]; try exact congrArg I (by simp only [TRequest.size] <;> omega))

theorem c_laws_szLine (a : TLine) (left : Int) (w : World) (h_a : Ph.ok w a) (hl0 : 0 ≤ left) (hl1 : left ≤ 1048576) : Calls Try.prog 57 [.agg #[I a.op, S a.text], I left].toArray w (RetP w (I (lessN left a.size))) := by
  have hb1 : a.text.length ≤ 9223372036854775807 := h_a.text
  refine enterN 13 Try.func57 rfl rfl rfl ?_
  have hs := Sat.start w
  refine WC.seq ?_
  refine WL.r (by rfl) (Yr.box hs (by rfl) (by rfl)) ?_
  clear hs; rintro _ w ⟨b1, rfl, hb, hs⟩; clear hb
  refine WL.p (by rfl) (Yl.assign (by rfl)) ?_
  refine WL.next ?_
  refine WC.seq ?_
  refine WL.p (by rfl) (Yl.move (by rfl)) ?_
  refine WL.p (by rfl) (Yl.fieldAddr fa84_1 (by rfl)) ?_
  refine WL.p (by rfl) (Yl.loadB sca9 (by rfl) hs (by repeat (first | exact List.mem_cons_self | apply List.mem_cons_of_mem)) (by rfl)) ?_
  refine WL.p (by rfl) (Yl.len_str str9 (by rfl)) ?_
  refine WL.p (by rfl) (Yl.sub_ (by rfl) (by rfl) (by omega)) ?_
  refine WL.p (by rfl) (Yl.assign (by rfl)) ?_
  refine WL.next ?_
  refine WC.seq' ?_
  refine WC.seq ?_
  refine WL.p (by rfl) (Yl.move (by rfl)) ?_
  refine WL.p (by rfl) (Yl.lss (by rfl) (by rfl)) ?_
  refine WL.next ?_
  refine WC.condS (by rfl) (fun h1 => ?_) (fun h1 => ?_)
  ·
    replace h1 := of_decide_eq_true h1
    refine WC.seq ?_
    refine WL.p (by rfl) (Yl.assign (by rfl)) ?_
    refine WL.next ?_
    refine WC.ret ?_
    refine At.thenret ?_
    refine fin1' rfl (by rfl) ?_
    refine RetP.mk hs ?_
    first
      | (rw [lessN_lt (left := left) (n := a.size) (by simp only [TLine.size]; omega)]; done)
      | (rw [lessN_ge (left := left) (n := a.size) (by simp only [TLine.size]; omega)]; try exact congrArg I (by simp only [TLine.size] <;> omega))
  ·
    replace h1 := of_decide_eq_false h1
    refine WC.skipn ?_
    refine WC.seq ?_
    refine WL.p (by rfl) (Yl.move (by rfl)) ?_
    refine WL.p (by rfl) (Yl.assign (by rfl)) ?_
    refine WL.next ?_
    refine WC.ret ?_
    refine fin1' rfl (by rfl) ?_
    refine RetP.mk hs ?_
    first
      | (rw [lessN_lt (left := left) (n := a.size) (by simp only [TLine.size]; omega)]; done)
      | (rw [lessN_ge (left := left) (n := a.size) (by simp only [TLine.size]; omega)]; try exact congrArg I (by simp only [TLine.size] <;> omega))

theorem c_laws_szLineS (a : (Sl TLine)) (left : Int) (w : World) (h_a : Ph.ok w a) (hl0 : 0 ≤ left) (hl1 : left ≤ 1048576) : Calls Try.prog 21 [Sl.v a, I left].toArray w (RetP w (I (lessN left (lsz TLine.size a.l)))) := by
  have hw := h_a.lt
  refine enterN 27 Try.func21 rfl rfl rfl ?_
  have hs := Sat.start w
  refine WC.seq ?_
  refine WL.p (by rfl) (Yl.assign (by rfl)) ?_
  refine WL.next ?_
  refine WC.seq ?_
  refine WL.p (by rfl) (Yl.move (by rfl)) ?_
  refine WL.p (by rfl) (Yl.move (by rfl)) ?_
  refine WL.p (by rfl) (Yl.len_sl slu35 (by rfl)) ?_
  refine WL.p (by rfl) (Yl.sub_ (by rfl) (by rfl) (by omega)) ?_
  refine WL.p (by rfl) (Yl.assign (by rfl)) ?_
  refine WL.next ?_
  refine WC.seq' ?_
  refine WC.seq ?_
  refine WL.p (by rfl) (Yl.move (by rfl)) ?_
  refine WL.p (by rfl) (Yl.lss (by rfl) (by rfl)) ?_
  refine WL.next ?_
  refine WC.condS (by rfl) (fun h1 => ?_) (fun h1 => ?_)
  ·
    replace h1 := of_decide_eq_true h1
    refine WC.seq ?_
    refine WL.p (by rfl) (Yl.assign (by rfl)) ?_
    refine WL.next ?_
    refine WC.ret ?_
    refine At.thenret ?_
    refine fin1' rfl (by rfl) ?_
    refine RetP.mk hs ?_
    rw [lessN_lt (by simp only [lsz]; omega)]
  ·
    replace h1 := of_decide_eq_false h1
    refine WC.skipn ?_
    refine WC.seq' ?_
    refine WC.seq ?_
    refine WL.p (by rfl) (Yl.assign (by rfl)) ?_
    refine WL.next ?_
    refine WC.block ?_
    refine WC.loopC (ι := Nat × Int) (fun ⟨k, l⟩ => a.l.length - k) (fun ⟨k, l⟩ => [(5, I (k : Int)), (1, I l)]) (fun _ => []) (fun ⟨k, l⟩ => 0 ≤ l ∧ l ≤ 1048576 ∧ lessN l (lsum TLine.size (a.l.drop k)) = lessN left (lsz TLine.size a.l)) [(0, _), (6, _), (7, _), (8, _), (9, _), (10, _), (11, _)] (0, left - (a.l.length : Int)) (hs) ⟨by rfl, by rfl, by rfl, by rfl, by rfl, by rfl, by rfl, trivial⟩ ⟨by rfl, by rfl, trivial⟩ ?_ ?_
    ·
      refine ⟨by omega, by omega, ?_⟩
      rw [List.drop_zero, lsz, lessN_sub (by omega)]
    clear hs; rintro ⟨k, l⟩ w ⟨hJ1, hJ2, hJ3⟩ hs
    simp only [List.nil_append] at hs
    refine WC.seq' ?_
    refine WC.seq ?_
    refine WL.p (by rfl) (Yl.move (by rfl)) ?_
    refine WL.p (by rfl) (Yl.move (by rfl)) ?_
    refine WL.p (by rfl) (Yl.len_sl slu35 (by rfl)) ?_
    refine WL.p (by rfl) (Yl.lss (by rfl) (by rfl)) ?_
    refine WL.next ?_
    refine WC.condS (by rfl) (fun h2 => ?_) (fun h2 => ?_)
    ·
      replace h2 := of_decide_eq_true h2
      obtain ⟨d, hd⟩ := exists_get (l := a.l) (k := k) (by omega)
      rw [drop_cons hd, lsum_cons] at hJ3
      refine WC.skipn ?_
      refine WC.seq' ?_
      refine WC.block ?_
      refine WC.seq ?_
      refine WL.p (by rfl) (Yl.move (by rfl)) ?_
      refine WL.p (by rfl) (Yl.move (by rfl)) ?_
      refine WL.p (by rfl) (Yl.indexAddr slt35 (by rfl) (by rfl) (Ph.old h_a hs) (by rfl) (hd)) ?_
      refine WL.p (by rfl) (Yl.loadA agg84 (by rfl) (Sl.Ok.at_ (Ph.old h_a hs) (by assumption)).2 (by rfl)) ?_
      refine WL.p (by rfl) (Yl.move (by rfl)) ?_
      refine WL.callp hs (by rfl) (Yc.func (by rfl) fn57) (c_laws_szLine _ _ _ (Ph.old (Sl.Ok.elem h_a hd) hs) (by first | assumption | omega | (simp only [lsz] at *; omega) | (simp only [lsz, strsz, TPolicy.size, TCache.size, TAddr.size, TRequest.size, TEntry.size, TResponse.size, TLine.size] at *; omega)) (by first | assumption | omega | (simp only [lsz] at *; omega) | (simp only [lsz, strsz, TPolicy.size, TCache.size, TAddr.size, TRequest.size, TEntry.size, TResponse.size, TLine.size] at *; omega))) ?_
      clear hs; intro w hs
      refine WL.p (by rfl) (Yl.assign (by rfl)) ?_
      refine WL.next ?_
      refine WC.seq ?_
      refine WL.p (by rfl) (Yl.move (by rfl)) ?_
      refine WL.p (by rfl) (Yl.lss (by rfl) (by rfl)) ?_
      refine WL.next ?_
      refine WC.condS (by rfl) (fun h3 => ?_) (fun h3 => ?_)
      ·
        replace h3 := lessN_neg (of_decide_eq_true h3)
        refine WC.seq ?_
        refine WL.p (by rfl) (Yl.assign (by rfl)) ?_
        refine WL.next ?_
        refine WC.ret ?_
        refine At.blockret ?_
        refine At.thenret ?_
        refine At.thenret ?_
        refine At.blockret ?_
        refine At.thenret ?_
        refine fin1' rfl (by rfl) ?_
        refine RetP.mk hs ?_
        rw [← hJ3, lessN_add_lt h3]
      ·
        replace h3 := lessN_nn (by omega) (of_decide_eq_false h3)
        refine WC.skip ?_
        refine At.blocknormal ?_
        refine At.then_ ?_
        refine WC.region ?_
        refine WL.p (by rfl) (Yl.move (by rfl)) ?_
        refine WL.p (by rfl) (Yl.add (by rfl) (by rfl) (by omega)) ?_
        refine WL.p (by rfl) (Yl.assign (by rfl)) ?_
        refine WL.nil ?_
        refine At.roundC (k + 1, lessN l (TLine.size d)) (hs.only (by repeat (first | exact Sel.nil | (apply Sel.cons; (repeat (first | exact Ext.here | apply Ext.there)))))) ⟨by rfl, by rfl, by rfl, by rfl, by rfl, by rfl, by rfl, trivial⟩ ⟨by rfl, by rfl, trivial⟩ ?_ ?_
        ·
          show a.l.length - (k + 1) < a.l.length - k
          omega
        ·
          simp only [h3.2]
          refine ⟨by omega, by omega, ?_⟩
          rw [lessN_sub (by omega), hJ3]
    ·
      replace h2 := of_decide_eq_false h2
      rw [drop_out (l := a.l) (by omega), lsum_nil] at hJ3
      refine WC.exit ?_
      refine At.thenexit ?_
      refine At.thenexit ?_
      refine At.blockexit ?_
      refine At.then_ ?_
      refine WC.seq ?_
      refine WL.p (by rfl) (Yl.move (by rfl)) ?_
      refine WL.p (by rfl) (Yl.assign (by rfl)) ?_
      refine WL.next ?_
      refine WC.ret ?_
      refine fin1' rfl (by rfl) ?_
      refine RetP.mk hs ?_
      rw [← hJ3, lessN_zero hJ1]

theorem c_laws_szStringS (a : (Sl Str)) (left : Int) (w : World) (h_a : Ph.ok w a) (hl0 : 0 ≤ left) (hl1 : left ≤ 1048576) : Calls Try.prog 60 [Sl.v a, I left].toArray w (RetP w (I (lessN left (lsz List.length a.l)))) := by
  have hw := h_a.lt
  refine enterN 28 Try.func60 rfl rfl rfl ?_
  have hs := Sat.start w
  refine WC.seq ?_
  refine WL.p (by rfl) (Yl.assign (by rfl)) ?_
  refine WL.next ?_
  refine WC.seq ?_
  refine WL.p (by rfl) (Yl.move (by rfl)) ?_
  refine WL.p (by rfl) (Yl.move (by rfl)) ?_
  refine WL.p (by rfl) (Yl.len_sl slu42 (by rfl)) ?_
  refine WL.p (by rfl) (Yl.sub_ (by rfl) (by rfl) (by omega)) ?_
  refine WL.p (by rfl) (Yl.assign (by rfl)) ?_
  refine WL.next ?_
  refine WC.seq' ?_
  refine WC.seq ?_
  refine WL.p (by rfl) (Yl.move (by rfl)) ?_
  refine WL.p (by rfl) (Yl.lss (by rfl) (by rfl)) ?_
  refine WL.next ?_
  refine WC.condS (by rfl) (fun h1 => ?_) (fun h1 => ?_)
  ·
    replace h1 := of_decide_eq_true h1
    refine WC.seq ?_
    refine WL.p (by rfl) (Yl.assign (by rfl)) ?_
    refine WL.next ?_
    refine WC.ret ?_
    refine At.thenret ?_
    refine fin1' rfl (by rfl) ?_
    refine RetP.mk hs ?_
    rw [lessN_lt (by simp only [lsz]; omega)]
  ·
    replace h1 := of_decide_eq_false h1
    refine WC.skipn ?_
    refine WC.seq' ?_
    refine WC.seq ?_
    refine WL.p (by rfl) (Yl.assign (by rfl)) ?_
    refine WL.next ?_
    refine WC.block ?_
    refine WC.loopC (ι := Nat × Int) (fun ⟨k, l⟩ => a.l.length - k) (fun ⟨k, l⟩ => [(5, I (k : Int)), (1, I l)]) (fun _ => []) (fun ⟨k, l⟩ => 0 ≤ l ∧ l ≤ 1048576 ∧ lessN l (lsum List.length (a.l.drop k)) = lessN left (lsz List.length a.l)) [(0, _), (6, _), (7, _), (8, _), (9, _), (10, _), (11, _)] (0, left - (a.l.length : Int)) (hs) ⟨by rfl, by rfl, by rfl, by rfl, by rfl, by rfl, by rfl, trivial⟩ ⟨by rfl, by rfl, trivial⟩ ?_ ?_
    ·
      refine ⟨by omega, by omega, ?_⟩
      rw [List.drop_zero, lsz, lessN_sub (by omega)]
    clear hs; rintro ⟨k, l⟩ w ⟨hJ1, hJ2, hJ3⟩ hs
    simp only [List.nil_append] at hs
    refine WC.seq' ?_
    refine WC.seq ?_
    refine WL.p (by rfl) (Yl.move (by rfl)) ?_
    refine WL.p (by rfl) (Yl.move (by rfl)) ?_
    refine WL.p (by rfl) (Yl.len_sl slu42 (by rfl)) ?_
    refine WL.p (by rfl) (Yl.lss (by rfl) (by rfl)) ?_
    refine WL.next ?_
    refine WC.condS (by rfl) (fun h2 => ?_) (fun h2 => ?_)
    ·
      replace h2 := of_decide_eq_true h2
      obtain ⟨d, hd⟩ := exists_get (l := a.l) (k := k) (by omega)
      rw [drop_cons hd, lsum_cons] at hJ3
      have hwd : d.length ≤ 9223372036854775807 := Sl.Ok.elem h_a hd
      refine WC.skipn ?_
      refine WC.seq' ?_
      refine WC.block ?_
      refine WC.seq ?_
      refine WL.p (by rfl) (Yl.move (by rfl)) ?_
      refine WL.p (by rfl) (Yl.move (by rfl)) ?_
      refine WL.p (by rfl) (Yl.move (by rfl)) ?_
      refine WL.p (by rfl) (Yl.indexAddr slt42 (by rfl) (by rfl) (Ph.old h_a hs) (by rfl) (hd)) ?_
      refine WL.p (by rfl) (Yl.loadC0 sca9 (by rfl) (Sl.Ok.at_ (Ph.old h_a hs) (by assumption)).2 (by rfl)) ?_
      refine WL.p (by rfl) (Yl.len_str str9 (by rfl)) ?_
      refine WL.p (by rfl) (Yl.sub_ (by rfl) (by rfl) (by omega)) ?_
      refine WL.p (by rfl) (Yl.assign (by rfl)) ?_
      refine WL.next ?_
      refine WC.seq ?_
      refine WL.p (by rfl) (Yl.move (by rfl)) ?_
      refine WL.p (by rfl) (Yl.lss (by rfl) (by rfl)) ?_
      refine WL.next ?_
      refine WC.condS (by rfl) (fun h3 => ?_) (fun h3 => ?_)
      ·
        replace h3 := of_decide_eq_true h3
        refine WC.seq ?_
        refine WL.p (by rfl) (Yl.assign (by rfl)) ?_
        refine WL.next ?_
        refine WC.ret ?_
        refine At.blockret ?_
        refine At.thenret ?_
        refine At.thenret ?_
        refine At.blockret ?_
        refine At.thenret ?_
        refine fin1' rfl (by rfl) ?_
        refine RetP.mk hs ?_
        rw [← hJ3, lessN_lt (by omega)]
      ·
        replace h3 := of_decide_eq_false h3
        refine WC.skip ?_
        refine At.blocknormal ?_
        refine At.then_ ?_
        refine WC.region ?_
        refine WL.p (by rfl) (Yl.move (by rfl)) ?_
        refine WL.p (by rfl) (Yl.add (by rfl) (by rfl) (by omega)) ?_
        refine WL.p (by rfl) (Yl.assign (by rfl)) ?_
        refine WL.nil ?_
        refine At.roundC (k + 1, l - (List.length d : Int)) (hs.only (by repeat (first | exact Sel.nil | (apply Sel.cons; (repeat (first | exact Ext.here | apply Ext.there)))))) ⟨by rfl, by rfl, by rfl, by rfl, by rfl, by rfl, by rfl, trivial⟩ ⟨by rfl, by rfl, trivial⟩ ?_ ?_
        ·
          show a.l.length - (k + 1) < a.l.length - k
          omega
        ·
          refine ⟨by omega, by omega, ?_⟩
          rw [lessN_sub (by omega), hJ3]
    ·
      replace h2 := of_decide_eq_false h2
      rw [drop_out (l := a.l) (by omega), lsum_nil] at hJ3
      refine WC.exit ?_
      refine At.thenexit ?_
      refine At.thenexit ?_
      refine At.blockexit ?_
      refine At.then_ ?_
      refine WC.seq ?_
      refine WL.p (by rfl) (Yl.move (by rfl)) ?_
      refine WL.p (by rfl) (Yl.assign (by rfl)) ?_
      refine WL.next ?_
      refine WC.ret ?_
      refine fin1' rfl (by rfl) ?_
      refine RetP.mk hs ?_
      rw [← hJ3, lessN_zero hJ1]

theorem c_laws_toAddr (a : TAddr) (w : World)   : Calls Try.prog 50 [.agg #[S a.host, S a.path]].toArray w (RetP w (.agg (Ph.enc a).toArray)) := by
  refine enterN 11 Try.func50 rfl rfl rfl ?_
  have hs := Sat.start w
  refine WC.seq ?_
  refine WL.r (by rfl) (Yr.box hs (by rfl) (by rfl)) ?_
  clear hs; rintro _ w ⟨b1, rfl, hb, hs⟩; clear hb
  refine WL.r (by rfl) (Yr.alloc hs zt28) ?_
  clear hs; rintro _ w ⟨b2, rfl, hb, hs⟩; clear hb
  refine WL.next ?_
  refine WC.seq ?_
  refine WL.r (by rfl) (Yr.alloc hs zt28) ?_
  clear hs; rintro _ w ⟨b3, rfl, hb, hs⟩; clear hb
  refine WL.next ?_
  refine WC.seq ?_
  refine WL.p (by rfl) (Yl.fieldAddr fa23_0 (by rfl)) ?_
  refine WL.p (by rfl) (Yl.loadB sca9 (by rfl) hs (by repeat (first | exact List.mem_cons_self | apply List.mem_cons_of_mem)) (by rfl)) ?_
  refine WL.p (by rfl) (Yl.fieldAddr fa28_0 (by rfl)) ?_
  refine WL.s (Yr.storeB hs (by rfl) (by rfl) (by rfl) (by repeat (first | exact Repl.here | apply Repl.there)) (by repeat (first | (apply SetAt.here; repeat (first | exact Over.nil | apply Over.cons)) | apply SetAt.there)) (by rfl) (by exact szf9)) ?_
  clear hs; rintro _ w hs
  refine WL.next ?_
  refine WC.seq ?_
  refine WL.p (by rfl) (Yl.fieldAddr fa23_1 (by rfl)) ?_
  refine WL.p (by rfl) (Yl.loadB sca9 (by rfl) hs (by repeat (first | exact List.mem_cons_self | apply List.mem_cons_of_mem)) (by rfl)) ?_
  refine WL.p (by rfl) (Yl.fieldAddr fa28_1 (by rfl)) ?_
  refine WL.s (Yr.storeB hs (by rfl) (by rfl) (by rfl) (by repeat (first | exact Repl.here | apply Repl.there)) (by repeat (first | (apply SetAt.here; repeat (first | exact Over.nil | apply Over.cons)) | apply SetAt.there)) (by rfl) (by exact szf9)) ?_
  clear hs; rintro _ w hs
  refine WL.next ?_
  refine WC.seq ?_
  refine WL.p (by rfl) (Yl.loadAB agg28 (by rfl) hs (by repeat (first | exact List.mem_cons_self | apply List.mem_cons_of_mem)) (by rfl) (by rfl)) ?_
  refine WL.s (Yr.storeB hs (by rfl) (by rfl) (by rfl) (by repeat (first | exact Repl.here | apply Repl.there)) (by repeat (first | (apply SetAt.here; repeat (first | exact Over.nil | apply Over.cons)) | apply SetAt.there)) (by rfl) (by exact szf28)) ?_
  clear hs; rintro _ w hs
  refine WL.next ?_
  refine WC.ret ?_
  refine fin1c rfl agg28 (by rfl) hs (by repeat (first | exact List.mem_cons_self | apply List.mem_cons_of_mem)) (by rfl) ?_
  refine RetP.mk hs ?_
  rfl

theorem c_laws_toRequest (a : TRequest) (w : World)   : Calls Try.prog 17 [.agg #[I a.kind, S a.to.host, S a.to.path, S a.frm, S a.digest]].toArray w (RetP w (.agg (Ph.enc a).toArray)) := by
  refine enterN 18 Try.func17 rfl rfl rfl ?_
  have hs := Sat.start w
  refine WC.seq ?_
  refine WL.r (by rfl) (Yr.box hs (by rfl) (by rfl)) ?_
  clear hs; rintro _ w ⟨b1, rfl, hb, hs⟩; clear hb
  refine WL.r (by rfl) (Yr.alloc hs zt30) ?_
  clear hs; rintro _ w ⟨b2, rfl, hb, hs⟩; clear hb
  refine WL.next ?_
  refine WC.seq ?_
  refine WL.r (by rfl) (Yr.alloc hs zt30) ?_
  clear hs; rintro _ w ⟨b3, rfl, hb, hs⟩; clear hb
  refine WL.next ?_
  refine WC.seq ?_
  refine WL.p (by rfl) (Yl.fieldAddr fa25_0 (by rfl)) ?_
  refine WL.p (by rfl) (Yl.loadB sca3 (by rfl) hs (by repeat (first | exact List.mem_cons_self | apply List.mem_cons_of_mem)) (by rfl)) ?_
  refine WL.p (by rfl) (Yl.fieldAddr fa30_0 (by rfl)) ?_
  refine WL.s (Yr.storeB hs (by rfl) (by rfl) (by rfl) (by repeat (first | exact Repl.here | apply Repl.there)) (by repeat (first | (apply SetAt.here; repeat (first | exact Over.nil | apply Over.cons)) | apply SetAt.there)) (by rfl) (by exact szf3)) ?_
  clear hs; rintro _ w hs
  refine WL.next ?_
  refine WC.seq ?_
  refine WL.p (by rfl) (Yl.fieldAddr fa25_1 (by rfl)) ?_
  refine WL.p (by rfl) (Yl.loadAB agg23 (by rfl) hs (by repeat (first | exact List.mem_cons_self | apply List.mem_cons_of_mem)) (by rfl) (by rfl)) ?_
  refine WL.callp hs (by rfl) (Yc.func (by rfl) fn50) (c_laws_toAddr _ _) ?_
  clear hs; intro w hs
  refine WL.p (by rfl) (Yl.fieldAddr fa30_1 (by rfl)) ?_
  refine WL.s (Yr.storeB hs (by rfl) (by rfl) (by rfl) (by repeat (first | exact Repl.here | apply Repl.there)) (by repeat (first | (apply SetAt.here; repeat (first | exact Over.nil | apply Over.cons)) | apply SetAt.there)) (by rfl) (by exact szf28)) ?_
  clear hs; rintro _ w hs
  refine WL.next ?_
  refine WC.seq ?_
  refine WL.p (by rfl) (Yl.fieldAddr fa25_2 (by rfl)) ?_
  refine WL.p (by rfl) (Yl.loadB sca9 (by rfl) hs (by repeat (first | exact List.mem_cons_self | apply List.mem_cons_of_mem)) (by rfl)) ?_
  refine WL.p (by rfl) (Yl.fieldAddr fa30_2 (by rfl)) ?_
  refine WL.s (Yr.storeB hs (by rfl) (by rfl) (by rfl) (by repeat (first | exact Repl.here | apply Repl.there)) (by repeat (first | (apply SetAt.here; repeat (first | exact Over.nil | apply Over.cons)) | apply SetAt.there)) (by rfl) (by exact szf9)) ?_
  clear hs; rintro _ w hs
  refine WL.next ?_
  refine WC.seq ?_
  refine WL.p (by rfl) (Yl.fieldAddr fa25_3 (by rfl)) ?_
  refine WL.p (by rfl) (Yl.loadB sca9 (by rfl) hs (by repeat (first | exact List.mem_cons_self | apply List.mem_cons_of_mem)) (by rfl)) ?_
  refine WL.p (by rfl) (Yl.fieldAddr fa30_3 (by rfl)) ?_
  refine WL.s (Yr.storeB hs (by rfl) (by rfl) (by rfl) (by repeat (first | exact Repl.here | apply Repl.there)) (by repeat (first | (apply SetAt.here; repeat (first | exact Over.nil | apply Over.cons)) | apply SetAt.there)) (by rfl) (by exact szf9)) ?_
  clear hs; rintro _ w hs
  refine WL.next ?_
  refine WC.seq ?_
  refine WL.p (by rfl) (Yl.loadAB agg30 (by rfl) hs (by repeat (first | exact List.mem_cons_self | apply List.mem_cons_of_mem)) (by rfl) (by rfl)) ?_
  refine WL.s (Yr.storeB hs (by rfl) (by rfl) (by rfl) (by repeat (first | exact Repl.here | apply Repl.there)) (by repeat (first | (apply SetAt.here; repeat (first | exact Over.nil | apply Over.cons)) | apply SetAt.there)) (by rfl) (by exact szf30)) ?_
  clear hs; rintro _ w hs
  refine WL.next ?_
  refine WC.ret ?_
  refine fin1c rfl agg30 (by rfl) hs (by repeat (first | exact List.mem_cons_self | apply List.mem_cons_of_mem)) (by rfl) ?_
  refine RetP.mk hs ?_
  rfl

theorem c_laws_toLine (a : TLine) (w : World)   : Calls Try.prog 58 [.agg #[I a.op, S a.text]].toArray w (RetP w (.agg (Ph.enc a).toArray)) := by
  refine enterN 11 Try.func58 rfl rfl rfl ?_
  have hs := Sat.start w
  refine WC.seq ?_
  refine WL.r (by rfl) (Yr.box hs (by rfl) (by rfl)) ?_
  clear hs; rintro _ w ⟨b1, rfl, hb, hs⟩; clear hb
  refine WL.r (by rfl) (Yr.alloc hs zt85) ?_
  clear hs; rintro _ w ⟨b2, rfl, hb, hs⟩; clear hb
  refine WL.next ?_
  refine WC.seq ?_
  refine WL.r (by rfl) (Yr.alloc hs zt85) ?_
  clear hs; rintro _ w ⟨b3, rfl, hb, hs⟩; clear hb
  refine WL.next ?_
  refine WC.seq ?_
  refine WL.p (by rfl) (Yl.fieldAddr fa84_0 (by rfl)) ?_
  refine WL.p (by rfl) (Yl.loadB sca3 (by rfl) hs (by repeat (first | exact List.mem_cons_self | apply List.mem_cons_of_mem)) (by rfl)) ?_
  refine WL.p (by rfl) (Yl.fieldAddr fa85_0 (by rfl)) ?_
  refine WL.s (Yr.storeB hs (by rfl) (by rfl) (by rfl) (by repeat (first | exact Repl.here | apply Repl.there)) (by repeat (first | (apply SetAt.here; repeat (first | exact Over.nil | apply Over.cons)) | apply SetAt.there)) (by rfl) (by exact szf3)) ?_
  clear hs; rintro _ w hs
  refine WL.next ?_
  refine WC.seq ?_
  refine WL.p (by rfl) (Yl.fieldAddr fa84_1 (by rfl)) ?_
  refine WL.p (by rfl) (Yl.loadB sca9 (by rfl) hs (by repeat (first | exact List.mem_cons_self | apply List.mem_cons_of_mem)) (by rfl)) ?_
  refine WL.p (by rfl) (Yl.fieldAddr fa85_1 (by rfl)) ?_
  refine WL.s (Yr.storeB hs (by rfl) (by rfl) (by rfl) (by repeat (first | exact Repl.here | apply Repl.there)) (by repeat (first | (apply SetAt.here; repeat (first | exact Over.nil | apply Over.cons)) | apply SetAt.there)) (by rfl) (by exact szf9)) ?_
  clear hs; rintro _ w hs
  refine WL.next ?_
  refine WC.seq ?_
  refine WL.p (by rfl) (Yl.loadAB agg85 (by rfl) hs (by repeat (first | exact List.mem_cons_self | apply List.mem_cons_of_mem)) (by rfl) (by rfl)) ?_
  refine WL.s (Yr.storeB hs (by rfl) (by rfl) (by rfl) (by repeat (first | exact Repl.here | apply Repl.there)) (by repeat (first | (apply SetAt.here; repeat (first | exact Over.nil | apply Over.cons)) | apply SetAt.there)) (by rfl) (by exact szf85)) ?_
  clear hs; rintro _ w hs
  refine WL.next ?_
  refine WC.ret ?_
  refine fin1c rfl agg85 (by rfl) hs (by repeat (first | exact List.mem_cons_self | apply List.mem_cons_of_mem)) (by rfl) ?_
  refine RetP.mk hs ?_
  rfl

theorem c_laws_eqAddr (a : TAddr) (b : TAddr) (w : World)   : Calls Try.prog 96 [.agg #[S a.host, S a.path], .agg #[S b.host, S b.path]].toArray w (RetP w (Bo (decide (a = b)))) := by
  refine enterN 15 Try.func96 rfl rfl rfl ?_
  have hs := Sat.start w
  refine WC.seq ?_
  refine WL.r (by rfl) (Yr.box hs (by rfl) (by rfl)) ?_
  clear hs; rintro _ w ⟨b1, rfl, hb, hs⟩; clear hb
  refine WL.r (by rfl) (Yr.box hs (by rfl) (by rfl)) ?_
  clear hs; rintro _ w ⟨b2, rfl, hb, hs⟩; clear hb
  refine WL.p (by rfl) (Yl.assign (by rfl)) ?_
  refine WL.next ?_
  refine WC.seq' ?_
  refine WC.seq ?_
  refine WL.p (by rfl) (Yl.fieldAddr fa28_0 (by rfl)) ?_
  refine WL.p (by rfl) (Yl.loadB sca9 (by rfl) hs (by repeat (first | exact List.mem_cons_self | apply List.mem_cons_of_mem)) (by rfl)) ?_
  refine WL.p (by rfl) (Yl.fieldAddr fa28_0 (by rfl)) ?_
  refine WL.p (by rfl) (Yl.loadB sca9 (by rfl) hs (by repeat (first | exact List.mem_cons_self | apply List.mem_cons_of_mem)) (by rfl)) ?_
  refine WL.p (by rfl) (Yl.nes (by rfl) (by rfl)) ?_
  refine WL.next ?_
  refine WC.condS (by rfl) (fun h1 => ?_) (fun h1 => ?_)
  ·
    replace h1 := not_eq_true h1
    replace h1 := of_decide_eq_false h1
    refine WC.seq ?_
    refine WL.p (by rfl) (Yl.assign (by rfl)) ?_
    refine WL.next ?_
    refine WC.ret ?_
    refine At.thenret ?_
    refine fin1' rfl (by rfl) ?_
    refine RetP.mk hs ?_
    simp_all [TAddr.ext_iff]
  ·
    replace h1 := not_eq_false h1
    replace h1 := of_decide_eq_true h1
    refine WC.skipn ?_
    refine WC.seq' ?_
    refine WC.seq ?_
    refine WL.p (by rfl) (Yl.fieldAddr fa28_1 (by rfl)) ?_
    refine WL.p (by rfl) (Yl.loadB sca9 (by rfl) hs (by repeat (first | exact List.mem_cons_self | apply List.mem_cons_of_mem)) (by rfl)) ?_
    refine WL.p (by rfl) (Yl.fieldAddr fa28_1 (by rfl)) ?_
    refine WL.p (by rfl) (Yl.loadB sca9 (by rfl) hs (by repeat (first | exact List.mem_cons_self | apply List.mem_cons_of_mem)) (by rfl)) ?_
    refine WL.p (by rfl) (Yl.nes (by rfl) (by rfl)) ?_
    refine WL.next ?_
    refine WC.condS (by rfl) (fun h2 => ?_) (fun h2 => ?_)
    ·
      replace h2 := not_eq_true h2
      replace h2 := of_decide_eq_false h2
      refine WC.seq ?_
      refine WL.p (by rfl) (Yl.assign (by rfl)) ?_
      refine WL.next ?_
      refine WC.ret ?_
      refine At.thenret ?_
      refine fin1' rfl (by rfl) ?_
      refine RetP.mk hs ?_
      simp_all [TAddr.ext_iff]
    ·
      replace h2 := not_eq_false h2
      replace h2 := of_decide_eq_true h2
      refine WC.skipn ?_
      refine WC.seq ?_
      refine WL.p (by rfl) (Yl.assign (by rfl)) ?_
      refine WL.next ?_
      refine WC.ret ?_
      refine fin1' rfl (by rfl) ?_
      refine RetP.mk hs ?_
      simp_all [TAddr.ext_iff]

theorem c_laws_eqLine (a : TLine) (b : TLine) (w : World)   : Calls Try.prog 59 [.agg #[I a.op, S a.text], .agg #[I b.op, S b.text]].toArray w (RetP w (Bo (decide (a = b)))) := by
  refine enterN 15 Try.func59 rfl rfl rfl ?_
  have hs := Sat.start w
  refine WC.seq ?_
  refine WL.r (by rfl) (Yr.box hs (by rfl) (by rfl)) ?_
  clear hs; rintro _ w ⟨b1, rfl, hb, hs⟩; clear hb
  refine WL.r (by rfl) (Yr.box hs (by rfl) (by rfl)) ?_
  clear hs; rintro _ w ⟨b2, rfl, hb, hs⟩; clear hb
  refine WL.p (by rfl) (Yl.assign (by rfl)) ?_
  refine WL.next ?_
  refine WC.seq' ?_
  refine WC.seq ?_
  refine WL.p (by rfl) (Yl.fieldAddr fa85_0 (by rfl)) ?_
  refine WL.p (by rfl) (Yl.loadB sca3 (by rfl) hs (by repeat (first | exact List.mem_cons_self | apply List.mem_cons_of_mem)) (by rfl)) ?_
  refine WL.p (by rfl) (Yl.fieldAddr fa85_0 (by rfl)) ?_
  refine WL.p (by rfl) (Yl.loadB sca3 (by rfl) hs (by repeat (first | exact List.mem_cons_self | apply List.mem_cons_of_mem)) (by rfl)) ?_
  refine WL.p (by rfl) (Yl.nei (by rfl) (by rfl)) ?_
  refine WL.next ?_
  refine WC.condS (by rfl) (fun h1 => ?_) (fun h1 => ?_)
  ·
    replace h1 := not_eq_true h1
    replace h1 := of_decide_eq_false h1
    refine WC.seq ?_
    refine WL.p (by rfl) (Yl.assign (by rfl)) ?_
    refine WL.next ?_
    refine WC.ret ?_
    refine At.thenret ?_
    refine fin1' rfl (by rfl) ?_
    refine RetP.mk hs ?_
    simp_all [TLine.ext_iff]
  ·
    replace h1 := not_eq_false h1
    replace h1 := of_decide_eq_true h1
    refine WC.skipn ?_
    refine WC.seq' ?_
    refine WC.seq ?_
    refine WL.p (by rfl) (Yl.fieldAddr fa85_1 (by rfl)) ?_
    refine WL.p (by rfl) (Yl.loadB sca9 (by rfl) hs (by repeat (first | exact List.mem_cons_self | apply List.mem_cons_of_mem)) (by rfl)) ?_
    refine WL.p (by rfl) (Yl.fieldAddr fa85_1 (by rfl)) ?_
    refine WL.p (by rfl) (Yl.loadB sca9 (by rfl) hs (by repeat (first | exact List.mem_cons_self | apply List.mem_cons_of_mem)) (by rfl)) ?_
    refine WL.p (by rfl) (Yl.nes (by rfl) (by rfl)) ?_
    refine WL.next ?_
    refine WC.condS (by rfl) (fun h2 => ?_) (fun h2 => ?_)
    ·
      replace h2 := not_eq_true h2
      replace h2 := of_decide_eq_false h2
      refine WC.seq ?_
      refine WL.p (by rfl) (Yl.assign (by rfl)) ?_
      refine WL.next ?_
      refine WC.ret ?_
      refine At.thenret ?_
      refine fin1' rfl (by rfl) ?_
      refine RetP.mk hs ?_
      simp_all [TLine.ext_iff]
    ·
      replace h2 := not_eq_false h2
      replace h2 := of_decide_eq_true h2
      refine WC.skipn ?_
      refine WC.seq ?_
      refine WL.p (by rfl) (Yl.assign (by rfl)) ?_
      refine WL.next ?_
      refine WC.ret ?_
      refine fin1' rfl (by rfl) ?_
      refine RetP.mk hs ?_
      simp_all [TLine.ext_iff]

theorem c_laws_eqResponse (a : TResponse) (b : TResponse) (w : World)   : Calls Try.prog 52 [.agg #[I a.status, I a.kind, S a.body, I a.age, Bo a.shares, S a.policy], .agg #[I b.status, I b.kind, S b.body, I b.age, Bo b.shares, S b.policy]].toArray w (RetP w (Bo (decide (a = b)))) := by
  refine enterN 35 Try.func52 rfl rfl rfl ?_
  have hs := Sat.start w
  refine WC.seq ?_
  refine WL.r (by rfl) (Yr.box hs (by rfl) (by rfl)) ?_
  clear hs; rintro _ w ⟨b1, rfl, hb, hs⟩; clear hb
  refine WL.r (by rfl) (Yr.box hs (by rfl) (by rfl)) ?_
  clear hs; rintro _ w ⟨b2, rfl, hb, hs⟩; clear hb
  refine WL.p (by rfl) (Yl.assign (by rfl)) ?_
  refine WL.next ?_
  refine WC.seq' ?_
  refine WC.seq ?_
  refine WL.p (by rfl) (Yl.fieldAddr fa72_0 (by rfl)) ?_
  refine WL.p (by rfl) (Yl.loadB sca3 (by rfl) hs (by repeat (first | exact List.mem_cons_self | apply List.mem_cons_of_mem)) (by rfl)) ?_
  refine WL.p (by rfl) (Yl.fieldAddr fa72_0 (by rfl)) ?_
  refine WL.p (by rfl) (Yl.loadB sca3 (by rfl) hs (by repeat (first | exact List.mem_cons_self | apply List.mem_cons_of_mem)) (by rfl)) ?_
  refine WL.p (by rfl) (Yl.nei (by rfl) (by rfl)) ?_
  refine WL.next ?_
  refine WC.condS (by rfl) (fun h1 => ?_) (fun h1 => ?_)
  ·
    replace h1 := not_eq_true h1
    replace h1 := of_decide_eq_false h1
    refine WC.seq ?_
    refine WL.p (by rfl) (Yl.assign (by rfl)) ?_
    refine WL.next ?_
    refine WC.ret ?_
    refine At.thenret ?_
    refine fin1' rfl (by rfl) ?_
    refine RetP.mk hs ?_
    simp_all [TResponse.ext_iff]
  ·
    replace h1 := not_eq_false h1
    replace h1 := of_decide_eq_true h1
    refine WC.skipn ?_
    refine WC.seq' ?_
    refine WC.seq ?_
    refine WL.p (by rfl) (Yl.fieldAddr fa72_1 (by rfl)) ?_
    refine WL.p (by rfl) (Yl.loadB sca3 (by rfl) hs (by repeat (first | exact List.mem_cons_self | apply List.mem_cons_of_mem)) (by rfl)) ?_
    refine WL.p (by rfl) (Yl.fieldAddr fa72_1 (by rfl)) ?_
    refine WL.p (by rfl) (Yl.loadB sca3 (by rfl) hs (by repeat (first | exact List.mem_cons_self | apply List.mem_cons_of_mem)) (by rfl)) ?_
    refine WL.p (by rfl) (Yl.nei (by rfl) (by rfl)) ?_
    refine WL.next ?_
    refine WC.condS (by rfl) (fun h2 => ?_) (fun h2 => ?_)
    ·
      replace h2 := not_eq_true h2
      replace h2 := of_decide_eq_false h2
      refine WC.seq ?_
      refine WL.p (by rfl) (Yl.assign (by rfl)) ?_
      refine WL.next ?_
      refine WC.ret ?_
      refine At.thenret ?_
      refine fin1' rfl (by rfl) ?_
      refine RetP.mk hs ?_
      simp_all [TResponse.ext_iff]
    ·
      replace h2 := not_eq_false h2
      replace h2 := of_decide_eq_true h2
      refine WC.skipn ?_
      refine WC.seq' ?_
      refine WC.seq ?_
      refine WL.p (by rfl) (Yl.fieldAddr fa72_2 (by rfl)) ?_
      refine WL.p (by rfl) (Yl.loadB sca9 (by rfl) hs (by repeat (first | exact List.mem_cons_self | apply List.mem_cons_of_mem)) (by rfl)) ?_
      refine WL.p (by rfl) (Yl.fieldAddr fa72_2 (by rfl)) ?_
      refine WL.p (by rfl) (Yl.loadB sca9 (by rfl) hs (by repeat (first | exact List.mem_cons_self | apply List.mem_cons_of_mem)) (by rfl)) ?_
      refine WL.p (by rfl) (Yl.nes (by rfl) (by rfl)) ?_
      refine WL.next ?_
      refine WC.condS (by rfl) (fun h3 => ?_) (fun h3 => ?_)
      ·
        replace h3 := not_eq_true h3
        replace h3 := of_decide_eq_false h3
        refine WC.seq ?_
        refine WL.p (by rfl) (Yl.assign (by rfl)) ?_
        refine WL.next ?_
        refine WC.ret ?_
        refine At.thenret ?_
        refine fin1' rfl (by rfl) ?_
        refine RetP.mk hs ?_
        simp_all [TResponse.ext_iff]
      ·
        replace h3 := not_eq_false h3
        replace h3 := of_decide_eq_true h3
        refine WC.skipn ?_
        refine WC.seq' ?_
        refine WC.seq ?_
        refine WL.p (by rfl) (Yl.fieldAddr fa72_3 (by rfl)) ?_
        refine WL.p (by rfl) (Yl.loadB sca3 (by rfl) hs (by repeat (first | exact List.mem_cons_self | apply List.mem_cons_of_mem)) (by rfl)) ?_
        refine WL.p (by rfl) (Yl.fieldAddr fa72_3 (by rfl)) ?_
        refine WL.p (by rfl) (Yl.loadB sca3 (by rfl) hs (by repeat (first | exact List.mem_cons_self | apply List.mem_cons_of_mem)) (by rfl)) ?_
        refine WL.p (by rfl) (Yl.nei (by rfl) (by rfl)) ?_
        refine WL.next ?_
        refine WC.condS (by rfl) (fun h4 => ?_) (fun h4 => ?_)
        ·
          replace h4 := not_eq_true h4
          replace h4 := of_decide_eq_false h4
          refine WC.seq ?_
          refine WL.p (by rfl) (Yl.assign (by rfl)) ?_
          refine WL.next ?_
          refine WC.ret ?_
          refine At.thenret ?_
          refine fin1' rfl (by rfl) ?_
          refine RetP.mk hs ?_
          simp_all [TResponse.ext_iff]
        ·
          replace h4 := not_eq_false h4
          replace h4 := of_decide_eq_true h4
          refine WC.skipn ?_
          refine WC.seq' ?_
          refine WC.seq ?_
          refine WL.p (by rfl) (Yl.fieldAddr fa72_4 (by rfl)) ?_
          refine WL.p (by rfl) (Yl.loadB sca4 (by rfl) hs (by repeat (first | exact List.mem_cons_self | apply List.mem_cons_of_mem)) (by rfl)) ?_
          refine WL.p (by rfl) (Yl.fieldAddr fa72_4 (by rfl)) ?_
          refine WL.p (by rfl) (Yl.loadB sca4 (by rfl) hs (by repeat (first | exact List.mem_cons_self | apply List.mem_cons_of_mem)) (by rfl)) ?_
          refine WL.p (by rfl) (Yl.neb bool4 (by rfl) (by rfl)) ?_
          refine WL.next ?_
          refine WC.condS (by rfl) (fun h5 => ?_) (fun h5 => ?_)
          ·
            replace h5 := not_eq_true h5
            replace h5 := beq_false h5
            refine WC.seq ?_
            refine WL.p (by rfl) (Yl.assign (by rfl)) ?_
            refine WL.next ?_
            refine WC.ret ?_
            refine At.thenret ?_
            refine fin1' rfl (by rfl) ?_
            refine RetP.mk hs ?_
            simp_all [TResponse.ext_iff]
          ·
            replace h5 := not_eq_false h5
            replace h5 := beq_true h5
            refine WC.skipn ?_
            refine WC.seq' ?_
            refine WC.seq ?_
            refine WL.p (by rfl) (Yl.fieldAddr fa72_5 (by rfl)) ?_
            refine WL.p (by rfl) (Yl.loadB sca9 (by rfl) hs (by repeat (first | exact List.mem_cons_self | apply List.mem_cons_of_mem)) (by rfl)) ?_
            refine WL.p (by rfl) (Yl.fieldAddr fa72_5 (by rfl)) ?_
            refine WL.p (by rfl) (Yl.loadB sca9 (by rfl) hs (by repeat (first | exact List.mem_cons_self | apply List.mem_cons_of_mem)) (by rfl)) ?_
            refine WL.p (by rfl) (Yl.nes (by rfl) (by rfl)) ?_
            refine WL.next ?_
            refine WC.condS (by rfl) (fun h6 => ?_) (fun h6 => ?_)
            ·
              replace h6 := not_eq_true h6
              replace h6 := of_decide_eq_false h6
              refine WC.seq ?_
              refine WL.p (by rfl) (Yl.assign (by rfl)) ?_
              refine WL.next ?_
              refine WC.ret ?_
              refine At.thenret ?_
              refine fin1' rfl (by rfl) ?_
              refine RetP.mk hs ?_
              simp_all [TResponse.ext_iff]
            ·
              replace h6 := not_eq_false h6
              replace h6 := of_decide_eq_true h6
              refine WC.skipn ?_
              refine WC.seq ?_
              refine WL.p (by rfl) (Yl.assign (by rfl)) ?_
              refine WL.next ?_
              refine WC.ret ?_
              refine fin1' rfl (by rfl) ?_
              refine RetP.mk hs ?_
              simp_all [TResponse.ext_iff]

theorem c_laws_eqLineS (a : (Sl TLine)) (b : (Sl TLine)) (w : World) (h_a : Ph.ok w a) (h_b : Ph.ok w b)  : Calls Try.prog 25 [Sl.v a, Sl.v b].toArray w (RetP w (Bo (decide (a.l = b.l)))) := by
  have hw := h_a.lt
  refine enterN 27 Try.func25 rfl rfl rfl ?_
  have hs := Sat.start w
  refine WC.seq ?_
  refine WL.p (by rfl) (Yl.assign (by rfl)) ?_
  refine WL.next ?_
  refine WC.seq' ?_
  refine WC.seq ?_
  refine WL.p (by rfl) (Yl.move (by rfl)) ?_
  refine WL.p (by rfl) (Yl.len_sl slu38 (by rfl)) ?_
  refine WL.p (by rfl) (Yl.move (by rfl)) ?_
  refine WL.p (by rfl) (Yl.len_sl slu38 (by rfl)) ?_
  refine WL.p (by rfl) (Yl.nei (by rfl) (by rfl)) ?_
  refine WL.next ?_
  refine WC.condS (by rfl) (fun h1 => ?_) (fun h1 => ?_)
  ·
    replace h1 := not_eq_true h1
    replace h1 := of_decide_eq_false h1
    refine WC.seq ?_
    refine WL.p (by rfl) (Yl.assign (by rfl)) ?_
    refine WL.next ?_
    refine WC.ret ?_
    refine At.thenret ?_
    refine fin1' rfl (by rfl) ?_
    refine RetP.mk hs ?_
    have hne : ¬ a.l = b.l := by intro h; rw [h] at h1; omega
    simp [hne]
  ·
    replace h1 := not_eq_false h1
    replace h1 := of_decide_eq_true h1
    refine WC.skipn ?_
    refine WC.seq' ?_
    refine WC.seq ?_
    refine WL.p (by rfl) (Yl.assign (by rfl)) ?_
    refine WL.next ?_
    refine WC.block ?_
    refine WC.loopC (ι := Nat) (fun k => a.l.length - k) (fun k => [(5, I (k : Int))]) (fun _ => []) (fun k => decide (a.l = b.l) = decide (a.l.drop k = b.l.drop k)) [(0, _), (1, _), (6, _), (7, _), (8, _), (9, _), (10, _)] 0 (hs) ⟨by rfl, by rfl, by rfl, by rfl, by rfl, by rfl, by rfl, trivial⟩ ⟨by rfl, trivial⟩ ?_ ?_
    ·
      simp
    clear hs; rintro k w hJ hs
    simp only [List.nil_append] at hs
    refine WC.seq' ?_
    refine WC.seq ?_
    refine WL.p (by rfl) (Yl.move (by rfl)) ?_
    refine WL.p (by rfl) (Yl.move (by rfl)) ?_
    refine WL.p (by rfl) (Yl.len_sl slu38 (by rfl)) ?_
    refine WL.p (by rfl) (Yl.lss (by rfl) (by rfl)) ?_
    refine WL.next ?_
    refine WC.condS (by rfl) (fun h2 => ?_) (fun h2 => ?_)
    ·
      replace h2 := of_decide_eq_true h2
      obtain ⟨d, hd⟩ := exists_get (l := a.l) (k := k) (by omega)
      obtain ⟨d2, hd2⟩ := exists_get (l := b.l) (k := k) (by omega)
      rw [drop_cons hd, drop_cons hd2] at hJ
      refine WC.skipn ?_
      refine WC.seq' ?_
      refine WC.block ?_
      refine WC.quietn mixed (by kernel_rfl) hs ?_
      refine WQ.p (by rfl) (fun w hs => Yl.move (by rfl)) ?_
      refine WQ.p (by rfl) (fun w hs => Yl.move (by rfl)) ?_
      refine WQ.p (by rfl) (fun w hs => Yl.indexAddr slt38 (by rfl) (by rfl) (Ph.old h_a hs) (by rfl) (hd)) ?_
      refine WQ.p (by rfl) (fun w hs => Yl.loadA agg85 (by rfl) (Sl.Ok.at_ (Ph.old h_a hs) (by assumption)).2 (by rfl)) ?_
      refine WQ.p (by rfl) (fun w hs => Yl.move (by rfl)) ?_
      refine WQ.p (by rfl) (fun w hs => Yl.move (by rfl)) ?_
      refine WQ.p (by rfl) (fun w hs => Yl.indexAddr slt38 (by rfl) (by rfl) (Ph.old h_b hs) (by rfl) (hd2)) ?_
      refine WQ.p (by rfl) (fun w hs => Yl.loadA agg85 (by rfl) (Sl.Ok.at_ (Ph.old h_b hs) (by assumption)).2 (by rfl)) ?_
      refine WQ.callp (by rfl) (fun w => Yc.func (by rfl) fn59) (fun w hs => (c_laws_eqLine _ _ _)) (fun _ _ hs hb => hs.ext hb) ?_
      refine WQ.p (by rfl) (fun w hs => Yl.not (by rfl)) ?_
      refine WQ.next ?_
      clear hs; intro w hs
      refine WC.condS (by rfl) (fun h3 => ?_) (fun h3 => ?_)
      ·
        replace h3 := not_eq_true h3
        replace h3 := of_decide_eq_false h3
        refine WC.seq ?_
        refine WL.p (by rfl) (Yl.assign (by rfl)) ?_
        refine WL.next ?_
        refine WC.ret ?_
        refine At.blockret ?_
        refine At.thenret ?_
        refine At.thenret ?_
        refine At.blockret ?_
        refine At.thenret ?_
        refine fin1' rfl (by rfl) ?_
        refine RetP.mk hs ?_
        rw [hJ]; simp_all
      ·
        replace h3 := not_eq_false h3
        replace h3 := of_decide_eq_true h3
        refine WC.skip ?_
        refine At.blocknormal ?_
        refine At.then_ ?_
        refine WC.region ?_
        refine WL.p (by rfl) (Yl.move (by rfl)) ?_
        refine WL.p (by rfl) (Yl.add (by rfl) (by rfl) (by omega)) ?_
        refine WL.p (by rfl) (Yl.assign (by rfl)) ?_
        refine WL.nil ?_
        refine At.roundC (k + 1) (hs.only (by repeat (first | exact Sel.nil | (apply Sel.cons; (repeat (first | exact Ext.here | apply Ext.there)))))) ⟨by rfl, by rfl, by rfl, by rfl, by rfl, by rfl, by rfl, trivial⟩ ⟨by rfl, trivial⟩ ?_ ?_
        ·
          omega
        ·
          rw [hJ]; simp_all
    ·
      replace h2 := of_decide_eq_false h2
      rw [drop_out (l := a.l) (by omega), drop_out (l := b.l) (by omega)] at hJ
      refine WC.exit ?_
      refine At.thenexit ?_
      refine At.thenexit ?_
      refine At.blockexit ?_
      refine At.then_ ?_
      refine WC.seq ?_
      refine WL.p (by rfl) (Yl.assign (by rfl)) ?_
      refine WL.next ?_
      refine WC.ret ?_
      refine fin1' rfl (by rfl) ?_
      refine RetP.mk hs ?_
      rw [hJ]; simp_all

theorem c_laws_eqStringS (a : (Sl Str)) (b : (Sl Str)) (w : World) (h_a : Ph.ok w a) (h_b : Ph.ok w b)  : Calls Try.prog 62 [Sl.v a, Sl.v b].toArray w (RetP w (Bo (decide (a.l = b.l)))) := by
  have hw := h_a.lt
  refine enterN 26 Try.func62 rfl rfl rfl ?_
  have hs := Sat.start w
  refine WC.seq ?_
  refine WL.p (by rfl) (Yl.assign (by rfl)) ?_
  refine WL.next ?_
  refine WC.seq' ?_
  refine WC.seq ?_
  refine WL.p (by rfl) (Yl.move (by rfl)) ?_
  refine WL.p (by rfl) (Yl.len_sl slu42 (by rfl)) ?_
  refine WL.p (by rfl) (Yl.move (by rfl)) ?_
  refine WL.p (by rfl) (Yl.len_sl slu42 (by rfl)) ?_
  refine WL.p (by rfl) (Yl.nei (by rfl) (by rfl)) ?_
  refine WL.next ?_
  refine WC.condS (by rfl) (fun h1 => ?_) (fun h1 => ?_)
  ·
    replace h1 := not_eq_true h1
    replace h1 := of_decide_eq_false h1
    refine WC.seq ?_
    refine WL.p (by rfl) (Yl.assign (by rfl)) ?_
    refine WL.next ?_
    refine WC.ret ?_
    refine At.thenret ?_
    refine fin1' rfl (by rfl) ?_
    refine RetP.mk hs ?_
    have hne : ¬ a.l = b.l := by intro h; rw [h] at h1; omega
    simp [hne]
  ·
    replace h1 := not_eq_false h1
    replace h1 := of_decide_eq_true h1
    refine WC.skipn ?_
    refine WC.seq' ?_
    refine WC.seq ?_
    refine WL.p (by rfl) (Yl.assign (by rfl)) ?_
    refine WL.next ?_
    refine WC.block ?_
    refine WC.loopC (ι := Nat) (fun k => a.l.length - k) (fun k => [(5, I (k : Int))]) (fun _ => []) (fun k => decide (a.l = b.l) = decide (a.l.drop k = b.l.drop k)) [(0, _), (1, _), (6, _), (7, _), (8, _), (9, _), (10, _)] 0 (hs) ⟨by rfl, by rfl, by rfl, by rfl, by rfl, by rfl, by rfl, trivial⟩ ⟨by rfl, trivial⟩ ?_ ?_
    ·
      simp
    clear hs; rintro k w hJ hs
    simp only [List.nil_append] at hs
    refine WC.seq' ?_
    refine WC.seq ?_
    refine WL.p (by rfl) (Yl.move (by rfl)) ?_
    refine WL.p (by rfl) (Yl.move (by rfl)) ?_
    refine WL.p (by rfl) (Yl.len_sl slu42 (by rfl)) ?_
    refine WL.p (by rfl) (Yl.lss (by rfl) (by rfl)) ?_
    refine WL.next ?_
    refine WC.condS (by rfl) (fun h2 => ?_) (fun h2 => ?_)
    ·
      replace h2 := of_decide_eq_true h2
      obtain ⟨d, hd⟩ := exists_get (l := a.l) (k := k) (by omega)
      obtain ⟨d2, hd2⟩ := exists_get (l := b.l) (k := k) (by omega)
      rw [drop_cons hd, drop_cons hd2] at hJ
      refine WC.skipn ?_
      refine WC.seq' ?_
      refine WC.block ?_
      refine WC.quietn mixed (by kernel_rfl) hs ?_
      refine WQ.p (by rfl) (fun w hs => Yl.move (by rfl)) ?_
      refine WQ.p (by rfl) (fun w hs => Yl.move (by rfl)) ?_
      refine WQ.p (by rfl) (fun w hs => Yl.indexAddr slt42 (by rfl) (by rfl) (Ph.old h_a hs) (by rfl) (hd)) ?_
      refine WQ.p (by rfl) (fun w hs => Yl.loadC0 sca9 (by rfl) (Sl.Ok.at_ (Ph.old h_a hs) (by assumption)).2 (by rfl)) ?_
      refine WQ.p (by rfl) (fun w hs => Yl.move (by rfl)) ?_
      refine WQ.p (by rfl) (fun w hs => Yl.move (by rfl)) ?_
      refine WQ.p (by rfl) (fun w hs => Yl.indexAddr slt42 (by rfl) (by rfl) (Ph.old h_b hs) (by rfl) (hd2)) ?_
      refine WQ.p (by rfl) (fun w hs => Yl.loadC0 sca9 (by rfl) (Sl.Ok.at_ (Ph.old h_b hs) (by assumption)).2 (by rfl)) ?_
      refine WQ.p (by rfl) (fun w hs => Yl.nes (by rfl) (by rfl)) ?_
      refine WQ.next ?_
      clear hs; intro w hs
      refine WC.condS (by rfl) (fun h3 => ?_) (fun h3 => ?_)
      ·
        replace h3 := not_eq_true h3
        replace h3 := of_decide_eq_false h3
        refine WC.seq ?_
        refine WL.p (by rfl) (Yl.assign (by rfl)) ?_
        refine WL.next ?_
        refine WC.ret ?_
        refine At.blockret ?_
        refine At.thenret ?_
        refine At.thenret ?_
        refine At.blockret ?_
        refine At.thenret ?_
        refine fin1' rfl (by rfl) ?_
        refine RetP.mk hs ?_
        rw [hJ]; simp_all
      ·
        replace h3 := not_eq_false h3
        replace h3 := of_decide_eq_true h3
        refine WC.skip ?_
        refine At.blocknormal ?_
        refine At.then_ ?_
        refine WC.region ?_
        refine WL.p (by rfl) (Yl.move (by rfl)) ?_
        refine WL.p (by rfl) (Yl.add (by rfl) (by rfl) (by omega)) ?_
        refine WL.p (by rfl) (Yl.assign (by rfl)) ?_
        refine WL.nil ?_
        refine At.roundC (k + 1) (hs.only (by repeat (first | exact Sel.nil | (apply Sel.cons; (repeat (first | exact Ext.here | apply Ext.there)))))) ⟨by rfl, by rfl, by rfl, by rfl, by rfl, by rfl, by rfl, trivial⟩ ⟨by rfl, trivial⟩ ?_ ?_
        ·
          omega
        ·
          rw [hJ]; simp_all
    ·
      replace h2 := of_decide_eq_false h2
      rw [drop_out (l := a.l) (by omega), drop_out (l := b.l) (by omega)] at hJ
      refine WC.exit ?_
      refine At.thenexit ?_
      refine At.thenexit ?_
      refine At.blockexit ?_
      refine At.then_ ?_
      refine WC.seq ?_
      refine WL.p (by rfl) (Yl.assign (by rfl)) ?_
      refine WL.next ?_
      refine WC.ret ?_
      refine fin1' rfl (by rfl) ?_
      refine RetP.mk hs ?_
      rw [hJ]; simp_all

theorem c_laws_toLineS (a : (Sl TLine)) (w : World) (h_a : Ph.ok w a) (hb : a.l.length ≤ 1048576) : Calls Try.prog 23 [Sl.v a].toArray w (Ret w (fun v w' => ∃ x : Sl TLine, v = x.v ∧ x.l = a.l ∧ Fresh w x w')) := by
  have hw := h_a.lt
  refine enterN 23 Try.func23 rfl rfl rfl ?_
  have hs := Sat.start w
  refine WC.seq ?_
  refine WL.p (by rfl) (Yl.assign (by rfl)) ?_
  refine WL.next ?_
  refine WC.seq ?_
  refine WL.p (by rfl) (Yl.move (by rfl)) ?_
  refine WL.p (by rfl) (Yl.len_sl slu35 (by rfl)) ?_
  refine WL.r (by rfl) (Yr.makeSlice (z := (⟨0, []⟩ : TLine)) (bytes := 24) hs elt38 (by rfl) (by rfl) (by omega) (by unfold maxLen; omega)) ?_
  clear hs; rintro _ w ⟨s1, F1, rfl, hl1, hb, hs⟩; clear hb
  refine WL.p (by rfl) (Yl.assign (by rfl)) ?_
  refine WL.next ?_
  refine WC.seq' ?_
  refine WC.seq ?_
  refine WL.p (by rfl) (Yl.assign (by rfl)) ?_
  refine WL.next ?_
  refine WC.block ?_
  refine WC.loopC (ι := Nat × Sl TLine × List Nat) (fun ⟨k, s, F⟩ => a.l.length - k) (fun ⟨k, s, F⟩ => [(4, I (k : Int)), (3, s.v)]) (fun ⟨k, s, F⟩ => [ow s F]) (fun ⟨k, s, F⟩ => k ≤ a.l.length ∧ s.l = a.l.take k ++ List.replicate (a.l.length - k) (⟨0, []⟩ : TLine)) [(0, _), (2, _), (5, _), (6, _), (7, _)] (0, s1, F1) (hs.sel (D := [ow s1 F1]) (by repeat (first | exact Sel.nil | (apply Sel.cons; (repeat (first | exact Ext.here | apply Ext.there)))))) ⟨by rfl, by rfl, by rfl, by rfl, by rfl, trivial⟩ ⟨by rfl, by rfl, trivial⟩ ?_ ?_
  ·
    exact ⟨Nat.zero_le _, by simp [hl1]⟩
  clear hs; rintro ⟨k, s, F⟩ w ⟨hJ1, hJ2⟩ hs
  simp only [List.cons_append, List.nil_append] at hs
  refine WC.seq' ?_
  refine WC.seq ?_
  refine WL.p (by rfl) (Yl.move (by rfl)) ?_
  refine WL.p (by rfl) (Yl.move (by rfl)) ?_
  refine WL.p (by rfl) (Yl.len_sl slu35 (by rfl)) ?_
  refine WL.p (by rfl) (Yl.lss (by rfl) (by rfl)) ?_
  refine WL.next ?_
  refine WC.condS (by rfl) (fun h1 => ?_) (fun h1 => ?_)
  ·
    replace h1 := of_decide_eq_true h1
    obtain ⟨d, hd⟩ := exists_get (l := a.l) (k := k) (by omega)
    have hkl : k < s.l.length := by rw [hJ2]; simp; omega
    refine WC.skipn ?_
    refine WC.seq' ?_
    refine WC.block ?_
    refine WC.region ?_
    refine WL.p (by rfl) (Yl.move (by rfl)) ?_
    refine WL.p (by rfl) (Yl.move (by rfl)) ?_
    refine WL.p (by rfl) (Yl.move (by rfl)) ?_
    refine WL.p (by rfl) (Yl.move (by rfl)) ?_
    refine WL.p (by rfl) (Yl.indexAddr slt35 (by rfl) (by rfl) (Ph.old h_a hs) (by rfl) (hd)) ?_
    refine WL.p (by rfl) (Yl.loadA agg84 (by rfl) (Sl.Ok.at_ (Ph.old h_a hs) (by assumption)).2 (by rfl)) ?_
    refine WL.callp hs (by rfl) (Yc.func (by rfl) fn58) (c_laws_toLine _ _) ?_
    clear hs; intro w hs
    refine WL.p (by rfl) (Yl.indexAddr slt38 (by rfl) (by rfl) (hs.okow (x := s) (F := F) (by repeat (first | exact List.mem_cons_self | apply List.mem_cons_of_mem))) (by rfl) (List.getElem?_eq_getElem hkl)) ?_
    refine WL.s (Yr.storeE (k := k) (hs.flat (by first | assumption | (refine Ph.old ?_ hs; assumption) | (refine Ph.old (Sl.Ok.elem ?_ (by assumption)) hs; assumption))) (by repeat (first | exact Sel.nil | (apply Sel.cons; (repeat (first | exact Ext.here | apply Ext.there))))) (by rfl) (by rfl) (by rfl) (by exact hkl) ⟨_, by rfl, by rfl⟩ szf85) ?_
    clear hs; rintro _ w ⟨F2, hs⟩
    refine WL.nil ?_
    refine At.blocknormal ?_
    refine At.then_ ?_
    refine WC.region ?_
    refine WL.p (by rfl) (Yl.move (by rfl)) ?_
    refine WL.p (by rfl) (Yl.add (by rfl) (by rfl) (by omega)) ?_
    refine WL.p (by rfl) (Yl.assign (by rfl)) ?_
    refine WL.nil ?_
    refine At.roundC (k + 1, ⟨s.l.set k d, s.a, s.c⟩, _) (hs.only (by repeat (first | exact Sel.nil | (apply Sel.cons; (repeat (first | exact Ext.here | apply Ext.there)))))) ⟨by rfl, by rfl, by rfl, by rfl, by rfl, trivial⟩ ⟨by rfl, by rw [Sl.v_set]; rfl, trivial⟩ ?_ ?_
    ·
      show a.l.length - (k + 1) < a.l.length - k
      omega
    ·
      exact ⟨by omega, by simp only [hJ2]; exact fill_step hd⟩
  ·
    replace h1 := of_decide_eq_false h1
    refine WC.exit ?_
    refine At.thenexit ?_
    refine At.thenexit ?_
    refine At.blockexit ?_
    refine At.then_ ?_
    refine WC.seq ?_
    refine WL.p (by rfl) (Yl.move (by rfl)) ?_
    refine WL.p (by rfl) (Yl.assign (by rfl)) ?_
    refine WL.next ?_
    refine WC.ret ?_
    refine fin1' rfl (by rfl) ?_
    refine Ret.mk hs ?_
    exact ⟨s, rfl, by rw [hJ2, show k = a.l.length from by omega]; simp, hs.fresh (by repeat (first | exact List.mem_cons_self | apply List.mem_cons_of_mem))⟩

theorem c_laws_toStringS (a : (Sl Str)) (w : World) (h_a : Ph.ok w a) (hb : a.l.length ≤ 1048576) : Calls Try.prog 61 [Sl.v a].toArray w (Ret w (fun v w' => ∃ x : Sl Str, v = x.v ∧ x.l = a.l ∧ Fresh w x w')) := by
  have hw := h_a.lt
  refine enterN 22 Try.func61 rfl rfl rfl ?_
  have hs := Sat.start w
  refine WC.seq ?_
  refine WL.p (by rfl) (Yl.assign (by rfl)) ?_
  refine WL.next ?_
  refine WC.seq ?_
  refine WL.p (by rfl) (Yl.move (by rfl)) ?_
  refine WL.p (by rfl) (Yl.len_sl slu42 (by rfl)) ?_
  refine WL.r (by rfl) (Yr.makeSlice (z := ([] : Str)) (bytes := 16) hs elt42 (by rfl) (by rfl) (by omega) (by unfold maxLen; omega)) ?_
  clear hs; rintro _ w ⟨s1, F1, rfl, hl1, hb, hs⟩; clear hb
  refine WL.p (by rfl) (Yl.assign (by rfl)) ?_
  refine WL.next ?_
  refine WC.seq' ?_
  refine WC.seq ?_
  refine WL.p (by rfl) (Yl.assign (by rfl)) ?_
  refine WL.next ?_
  refine WC.block ?_
  refine WC.loopC (ι := Nat × Sl Str × List Nat) (fun ⟨k, s, F⟩ => a.l.length - k) (fun ⟨k, s, F⟩ => [(4, I (k : Int)), (3, s.v)]) (fun ⟨k, s, F⟩ => [ow s F]) (fun ⟨k, s, F⟩ => k ≤ a.l.length ∧ s.l = a.l.take k ++ List.replicate (a.l.length - k) ([] : Str)) [(0, _), (2, _), (5, _), (6, _), (7, _)] (0, s1, F1) (hs.sel (D := [ow s1 F1]) (by repeat (first | exact Sel.nil | (apply Sel.cons; (repeat (first | exact Ext.here | apply Ext.there)))))) ⟨by rfl, by rfl, by rfl, by rfl, by rfl, trivial⟩ ⟨by rfl, by rfl, trivial⟩ ?_ ?_
  ·
    exact ⟨Nat.zero_le _, by simp [hl1]⟩
  clear hs; rintro ⟨k, s, F⟩ w ⟨hJ1, hJ2⟩ hs
  simp only [List.cons_append, List.nil_append] at hs
  refine WC.seq' ?_
  refine WC.seq ?_
  refine WL.p (by rfl) (Yl.move (by rfl)) ?_
  refine WL.p (by rfl) (Yl.move (by rfl)) ?_
  refine WL.p (by rfl) (Yl.len_sl slu42 (by rfl)) ?_
  refine WL.p (by rfl) (Yl.lss (by rfl) (by rfl)) ?_
  refine WL.next ?_
  refine WC.condS (by rfl) (fun h1 => ?_) (fun h1 => ?_)
  ·
    replace h1 := of_decide_eq_true h1
    obtain ⟨d, hd⟩ := exists_get (l := a.l) (k := k) (by omega)
    have hkl : k < s.l.length := by rw [hJ2]; simp; omega
    refine WC.skipn ?_
    refine WC.seq' ?_
    refine WC.block ?_
    refine WC.region ?_
    refine WL.p (by rfl) (Yl.move (by rfl)) ?_
    refine WL.p (by rfl) (Yl.move (by rfl)) ?_
    refine WL.p (by rfl) (Yl.move (by rfl)) ?_
    refine WL.p (by rfl) (Yl.move (by rfl)) ?_
    refine WL.p (by rfl) (Yl.indexAddr slt42 (by rfl) (by rfl) (Ph.old h_a hs) (by rfl) (hd)) ?_
    refine WL.p (by rfl) (Yl.loadC0 sca9 (by rfl) (Sl.Ok.at_ (Ph.old h_a hs) (by assumption)).2 (by rfl)) ?_
    refine WL.p (by rfl) (Yl.indexAddr slt42 (by rfl) (by rfl) (hs.okow (x := s) (F := F) (by repeat (first | exact List.mem_cons_self | apply List.mem_cons_of_mem))) (by rfl) (List.getElem?_eq_getElem hkl)) ?_
    refine WL.s (Yr.storeE (k := k) (hs.flat (by first | assumption | (refine Ph.old ?_ hs; assumption) | (refine Ph.old (Sl.Ok.elem ?_ (by assumption)) hs; assumption))) (by repeat (first | exact Sel.nil | (apply Sel.cons; (repeat (first | exact Ext.here | apply Ext.there))))) (by rfl) (by rfl) (by rfl) (by exact hkl) ⟨_, by rfl, by rfl⟩ szf9) ?_
    clear hs; rintro _ w ⟨F2, hs⟩
    refine WL.nil ?_
    refine At.blocknormal ?_
    refine At.then_ ?_
    refine WC.region ?_
    refine WL.p (by rfl) (Yl.move (by rfl)) ?_
    refine WL.p (by rfl) (Yl.add (by rfl) (by rfl) (by omega)) ?_
    refine WL.p (by rfl) (Yl.assign (by rfl)) ?_
    refine WL.nil ?_
    refine At.roundC (k + 1, ⟨s.l.set k d, s.a, s.c⟩, _) (hs.only (by repeat (first | exact Sel.nil | (apply Sel.cons; (repeat (first | exact Ext.here | apply Ext.there)))))) ⟨by rfl, by rfl, by rfl, by rfl, by rfl, trivial⟩ ⟨by rfl, by rw [Sl.v_set]; rfl, trivial⟩ ?_ ?_
    ·
      show a.l.length - (k + 1) < a.l.length - k
      omega
    ·
      exact ⟨by omega, by simp only [hJ2]; exact fill_step hd⟩
  ·
    replace h1 := of_decide_eq_false h1
    refine WC.exit ?_
    refine At.thenexit ?_
    refine At.thenexit ?_
    refine At.blockexit ?_
    refine At.then_ ?_
    refine WC.seq ?_
    refine WL.p (by rfl) (Yl.move (by rfl)) ?_
    refine WL.p (by rfl) (Yl.assign (by rfl)) ?_
    refine WL.next ?_
    refine WC.ret ?_
    refine fin1' rfl (by rfl) ?_
    refine Ret.mk hs ?_
    exact ⟨s, rfl, by rw [hJ2, show k = a.l.length from by omega]; simp, hs.fresh (by repeat (first | exact List.mem_cons_self | apply List.mem_cons_of_mem))⟩

theorem c_laws_FnExactSameRequest (aA : TRequest) (aB : TRequest) (w : World) (h_aA : Ph.ok w aA) (h_aB : Ph.ok w aB)  : Calls Try.prog 3 [.agg #[I aA.kind, S aA.to.host, S aA.to.path, S aA.frm, S aA.digest], .agg #[I aB.kind, S aB.to.host, S aB.to.path, S aB.frm, S aB.digest]].toArray w (RetP w (Bo true)) := by
  refine enterN 31 Try.func3 rfl rfl rfl ?_
  have hs := Sat.start w
  refine WC.seq ?_
  refine WL.r (by rfl) (Yr.box hs (by rfl) (by rfl)) ?_
  clear hs; rintro _ w ⟨b1, rfl, hb, hs⟩; clear hb
  refine WL.r (by rfl) (Yr.box hs (by rfl) (by rfl)) ?_
  clear hs; rintro _ w ⟨b2, rfl, hb, hs⟩; clear hb
  refine WL.p (by rfl) (Yl.assign (by rfl)) ?_
  refine WL.next ?_
  refine WC.seq ?_
  refine WL.p (by rfl) (Yl.assign (by rfl)) ?_
  refine WL.next ?_
  refine WC.seq ?_
  refine WL.p (by rfl) (Yl.loadAB agg25 (by rfl) hs (by repeat (first | exact List.mem_cons_self | apply List.mem_cons_of_mem)) (by rfl) (by rfl)) ?_
  refine WL.p (by rfl) (Yl.move (by rfl)) ?_
  refine WL.callp hs (by rfl) (Yc.func (by rfl) fn15) (c_laws_szRequest _ _ _ ⟨(Ph.old h_aA.kind hs), ⟨(Ph.old h_aA.to.host hs), (Ph.old h_aA.to.path hs)⟩, (Ph.old h_aA.frm hs), (Ph.old h_aA.digest hs)⟩ (by first | assumption | omega | (simp only [lsz] at *; omega) | (simp only [lsz, strsz, TPolicy.size, TCache.size, TAddr.size, TRequest.size, TEntry.size, TResponse.size, TLine.size] at *; omega)) (by first | assumption | omega | (simp only [lsz] at *; omega) | (simp only [lsz, strsz, TPolicy.size, TCache.size, TAddr.size, TRequest.size, TEntry.size, TResponse.size, TLine.size] at *; omega))) ?_
  clear hs; intro w hs
  refine WL.p (by rfl) (Yl.assign (by rfl)) ?_
  refine WL.next ?_
  refine WC.seq' ?_
  refine WC.seq ?_
  refine WL.p (by rfl) (Yl.move (by rfl)) ?_
  refine WL.p (by rfl) (Yl.lss (by rfl) (by rfl)) ?_
  refine WL.next ?_
  refine WC.condS (by rfl) (fun h1 => ?_) (fun h1 => ?_)
  ·
    replace h1 := lessN_neg (of_decide_eq_true h1)
    refine WC.seq ?_
    refine WL.p (by rfl) (Yl.assign (by rfl)) ?_
    refine WL.next ?_
    refine WC.ret ?_
    refine At.thenret ?_
    refine fin1' rfl (by rfl) ?_
    refine RetP.mk hs ?_
    simp_all
  ·
    replace h1 := lessN_nn (by omega) (of_decide_eq_false h1)
    refine WC.skipn ?_
    refine WC.seq ?_
    refine WL.p (by rfl) (Yl.loadAB agg25 (by rfl) hs (by repeat (first | exact List.mem_cons_self | apply List.mem_cons_of_mem)) (by rfl) (by rfl)) ?_
    refine WL.p (by rfl) (Yl.move (by rfl)) ?_
    refine WL.callp hs (by rfl) (Yc.func (by rfl) fn15) (c_laws_szRequest _ _ _ ⟨(Ph.old h_aB.kind hs), ⟨(Ph.old h_aB.to.host hs), (Ph.old h_aB.to.path hs)⟩, (Ph.old h_aB.frm hs), (Ph.old h_aB.digest hs)⟩ (by first | assumption | omega | (simp only [lsz] at *; omega) | (simp only [lsz, strsz, TPolicy.size, TCache.size, TAddr.size, TRequest.size, TEntry.size, TResponse.size, TLine.size] at *; omega)) (by first | assumption | omega | (simp only [lsz] at *; omega) | (simp only [lsz, strsz, TPolicy.size, TCache.size, TAddr.size, TRequest.size, TEntry.size, TResponse.size, TLine.size] at *; omega))) ?_
    clear hs; intro w hs
    refine WL.p (by rfl) (Yl.assign (by rfl)) ?_
    refine WL.next ?_
    refine WC.seq' ?_
    refine WC.seq ?_
    refine WL.p (by rfl) (Yl.move (by rfl)) ?_
    refine WL.p (by rfl) (Yl.lss (by rfl) (by rfl)) ?_
    refine WL.next ?_
    refine WC.condS (by rfl) (fun h2 => ?_) (fun h2 => ?_)
    ·
      replace h2 := lessN_neg (of_decide_eq_true h2)
      refine WC.seq ?_
      refine WL.p (by rfl) (Yl.assign (by rfl)) ?_
      refine WL.next ?_
      refine WC.ret ?_
      refine At.thenret ?_
      refine fin1' rfl (by rfl) ?_
      refine RetP.mk hs ?_
      simp_all
    ·
      replace h2 := lessN_nn (by omega) (of_decide_eq_false h2)
      refine WC.skipn ?_
      refine WC.quietn mixed (by kernel_rfl) hs ?_
      refine WQ.p (by rfl) (fun w hs => Yl.loadAB agg25 (by rfl) hs (by repeat (first | exact List.mem_cons_self | apply List.mem_cons_of_mem)) (by rfl) (by rfl)) ?_
      refine WQ.callp (by rfl) (fun w => Yc.func (by rfl) fn17) (fun w hs => (c_laws_toRequest _ _)) (fun _ _ hs hb => hs.ext hb) ?_
      refine WQ.p (by rfl) (fun w hs => Yl.loadAB agg25 (by rfl) hs (by repeat (first | exact List.mem_cons_self | apply List.mem_cons_of_mem)) (by rfl) (by rfl)) ?_
      refine WQ.callp (by rfl) (fun w => Yc.func (by rfl) fn17) (fun w hs => (c_laws_toRequest _ _)) (fun _ _ hs hb => hs.ext hb) ?_
      refine WQ.callp (by rfl) (fun w => Yc.func (by rfl) fn16) (fun w hs => (c_spec_SameRequest _ _ _)) (fun _ _ hs hb => hs.ext hb) ?_
      refine WQ.p (by rfl) (fun w hs => Yl.assign (by rfl)) ?_
      refine WQ.next ?_
      clear hs; intro w hs
      refine WC.quietn mixed (by kernel_rfl) hs ?_
      refine WQ.p (by rfl) (fun w hs => Yl.loadAB agg25 (by rfl) hs (by repeat (first | exact List.mem_cons_self | apply List.mem_cons_of_mem)) (by rfl) (by rfl)) ?_
      refine WQ.callp (by rfl) (fun w => Yc.func (by rfl) fn17) (fun w hs => (c_laws_toRequest _ _)) (fun _ _ hs hb => hs.ext hb) ?_
      refine WQ.p (by rfl) (fun w hs => Yl.loadAB agg25 (by rfl) hs (by repeat (first | exact List.mem_cons_self | apply List.mem_cons_of_mem)) (by rfl) (by rfl)) ?_
      refine WQ.callp (by rfl) (fun w => Yc.func (by rfl) fn17) (fun w hs => (c_laws_toRequest _ _)) (fun _ _ hs hb => hs.ext hb) ?_
      refine WQ.callp (by rfl) (fun w => Yc.func (by rfl) fn18) (fun w hs => (c_impl_SameRequest _ _ _)) (fun _ _ hs hb => hs.ext hb) ?_
      refine WQ.p (by rfl) (fun w hs => Yl.assign (by rfl)) ?_
      refine WQ.next ?_
      clear hs; intro w hs
      refine WC.seq' ?_
      refine WC.seq ?_
      refine WL.p (by rfl) (Yl.move (by rfl)) ?_
      refine WL.p (by rfl) (Yl.move (by rfl)) ?_
      refine WL.p (by rfl) (Yl.neb bool4 (by rfl) (by rfl)) ?_
      refine WL.next ?_
      refine WC.condS (by rfl) (fun h3 => ?_) (fun h3 => ?_)
      ·
        replace h3 := not_eq_true h3
        replace h3 := beq_false h3
        refine WC.seq ?_
        refine WL.p (by rfl) (Yl.assign (by rfl)) ?_
        refine WL.next ?_
        refine WC.ret ?_
        refine At.thenret ?_
        refine fin1' rfl (by rfl) ?_
        refine RetP.mk hs ?_
        simp_all
      ·
        replace h3 := not_eq_false h3
        replace h3 := beq_true h3
        refine WC.skipn ?_
        refine WC.seq ?_
        refine WL.p (by rfl) (Yl.assign (by rfl)) ?_
        refine WL.next ?_
        refine WC.ret ?_
        refine fin1' rfl (by rfl) ?_
        refine RetP.mk hs ?_
        simp_all

theorem c_laws_FnExactIsRequest (aR : TRequest) (w : World) (h_aR : Ph.ok w aR)  : Calls Try.prog 7 [.agg #[I aR.kind, S aR.to.host, S aR.to.path, S aR.frm, S aR.digest]].toArray w (RetP w (Bo true)) := by
  refine enterN 20 Try.func7 rfl rfl rfl ?_
  have hs := Sat.start w
  refine WC.seq ?_
  refine WL.r (by rfl) (Yr.box hs (by rfl) (by rfl)) ?_
  clear hs; rintro _ w ⟨b1, rfl, hb, hs⟩; clear hb
  refine WL.p (by rfl) (Yl.assign (by rfl)) ?_
  refine WL.next ?_
  refine WC.seq ?_
  refine WL.p (by rfl) (Yl.assign (by rfl)) ?_
  refine WL.next ?_
  refine WC.seq ?_
  refine WL.p (by rfl) (Yl.loadAB agg25 (by rfl) hs (by repeat (first | exact List.mem_cons_self | apply List.mem_cons_of_mem)) (by rfl) (by rfl)) ?_
  refine WL.p (by rfl) (Yl.move (by rfl)) ?_
  refine WL.callp hs (by rfl) (Yc.func (by rfl) fn15) (c_laws_szRequest _ _ _ ⟨(Ph.old h_aR.kind hs), ⟨(Ph.old h_aR.to.host hs), (Ph.old h_aR.to.path hs)⟩, (Ph.old h_aR.frm hs), (Ph.old h_aR.digest hs)⟩ (by first | assumption | omega | (simp only [lsz] at *; omega) | (simp only [lsz, strsz, TPolicy.size, TCache.size, TAddr.size, TRequest.size, TEntry.size, TResponse.size, TLine.size] at *; omega)) (by first | assumption | omega | (simp only [lsz] at *; omega) | (simp only [lsz, strsz, TPolicy.size, TCache.size, TAddr.size, TRequest.size, TEntry.size, TResponse.size, TLine.size] at *; omega))) ?_
  clear hs; intro w hs
  refine WL.p (by rfl) (Yl.assign (by rfl)) ?_
  refine WL.next ?_
  refine WC.seq' ?_
  refine WC.seq ?_
  refine WL.p (by rfl) (Yl.move (by rfl)) ?_
  refine WL.p (by rfl) (Yl.lss (by rfl) (by rfl)) ?_
  refine WL.next ?_
  refine WC.condS (by rfl) (fun h1 => ?_) (fun h1 => ?_)
  ·
    replace h1 := lessN_neg (of_decide_eq_true h1)
    refine WC.seq ?_
    refine WL.p (by rfl) (Yl.assign (by rfl)) ?_
    refine WL.next ?_
    refine WC.ret ?_
    refine At.thenret ?_
    refine fin1' rfl (by rfl) ?_
    refine RetP.mk hs ?_
    simp_all
  ·
    replace h1 := lessN_nn (by omega) (of_decide_eq_false h1)
    refine WC.skipn ?_
    refine WC.seq ?_
    refine WL.p (by rfl) (Yl.loadAB agg25 (by rfl) hs (by repeat (first | exact List.mem_cons_self | apply List.mem_cons_of_mem)) (by rfl) (by rfl)) ?_
    refine WL.callp hs (by rfl) (Yc.func (by rfl) fn17) (c_laws_toRequest _ _) ?_
    clear hs; intro w hs
    refine WL.callp hs (by rfl) (Yc.func (by rfl) fn31) (c_spec_IsRequest _ _ (by first | assumption | (refine Ph.old ?_ hs; assumption))) ?_
    clear hs; intro w hs
    refine WL.p (by rfl) (Yl.assign (by rfl)) ?_
    refine WL.next ?_
    refine WC.seq ?_
    refine WL.p (by rfl) (Yl.loadAB agg25 (by rfl) hs (by repeat (first | exact List.mem_cons_self | apply List.mem_cons_of_mem)) (by rfl) (by rfl)) ?_
    refine WL.callp hs (by rfl) (Yc.func (by rfl) fn17) (c_laws_toRequest _ _) ?_
    clear hs; intro w hs
    refine WL.callp hs (by rfl) (Yc.func (by rfl) fn32) (c_impl_IsRequest _ _ (by first | assumption | (refine Ph.old ?_ hs; assumption))) ?_
    clear hs; intro w hs
    refine WL.p (by rfl) (Yl.assign (by rfl)) ?_
    refine WL.next ?_
    refine WC.seq' ?_
    refine WC.seq ?_
    refine WL.p (by rfl) (Yl.move (by rfl)) ?_
    refine WL.p (by rfl) (Yl.move (by rfl)) ?_
    refine WL.p (by rfl) (Yl.neb bool4 (by rfl) (by rfl)) ?_
    refine WL.next ?_
    refine WC.condS (by rfl) (fun h2 => ?_) (fun h2 => ?_)
    ·
      replace h2 := not_eq_true h2
      replace h2 := beq_false h2
      refine WC.seq ?_
      refine WL.p (by rfl) (Yl.assign (by rfl)) ?_
      refine WL.next ?_
      refine WC.ret ?_
      refine At.thenret ?_
      refine fin1' rfl (by rfl) ?_
      refine RetP.mk hs ?_
      simp_all
    ·
      replace h2 := not_eq_false h2
      replace h2 := beq_true h2
      refine WC.skipn ?_
      refine WC.seq ?_
      refine WL.p (by rfl) (Yl.assign (by rfl)) ?_
      refine WL.next ?_
      refine WC.ret ?_
      refine fin1' rfl (by rfl) ?_
      refine RetP.mk hs ?_
      simp_all

theorem c_laws_FnExactCanGuess (aR : TRequest) (w : World) (h_aR : Ph.ok w aR)  : Calls Try.prog 8 [.agg #[I aR.kind, S aR.to.host, S aR.to.path, S aR.frm, S aR.digest]].toArray w (RetP w (Bo true)) := by
  refine enterN 20 Try.func8 rfl rfl rfl ?_
  have hs := Sat.start w
  refine WC.seq ?_
  refine WL.r (by rfl) (Yr.box hs (by rfl) (by rfl)) ?_
  clear hs; rintro _ w ⟨b1, rfl, hb, hs⟩; clear hb
  refine WL.p (by rfl) (Yl.assign (by rfl)) ?_
  refine WL.next ?_
  refine WC.seq ?_
  refine WL.p (by rfl) (Yl.assign (by rfl)) ?_
  refine WL.next ?_
  refine WC.seq ?_
  refine WL.p (by rfl) (Yl.loadAB agg25 (by rfl) hs (by repeat (first | exact List.mem_cons_self | apply List.mem_cons_of_mem)) (by rfl) (by rfl)) ?_
  refine WL.p (by rfl) (Yl.move (by rfl)) ?_
  refine WL.callp hs (by rfl) (Yc.func (by rfl) fn15) (c_laws_szRequest _ _ _ ⟨(Ph.old h_aR.kind hs), ⟨(Ph.old h_aR.to.host hs), (Ph.old h_aR.to.path hs)⟩, (Ph.old h_aR.frm hs), (Ph.old h_aR.digest hs)⟩ (by first | assumption | omega | (simp only [lsz] at *; omega) | (simp only [lsz, strsz, TPolicy.size, TCache.size, TAddr.size, TRequest.size, TEntry.size, TResponse.size, TLine.size] at *; omega)) (by first | assumption | omega | (simp only [lsz] at *; omega) | (simp only [lsz, strsz, TPolicy.size, TCache.size, TAddr.size, TRequest.size, TEntry.size, TResponse.size, TLine.size] at *; omega))) ?_
  clear hs; intro w hs
  refine WL.p (by rfl) (Yl.assign (by rfl)) ?_
  refine WL.next ?_
  refine WC.seq' ?_
  refine WC.seq ?_
  refine WL.p (by rfl) (Yl.move (by rfl)) ?_
  refine WL.p (by rfl) (Yl.lss (by rfl) (by rfl)) ?_
  refine WL.next ?_
  refine WC.condS (by rfl) (fun h1 => ?_) (fun h1 => ?_)
  ·
    replace h1 := lessN_neg (of_decide_eq_true h1)
    refine WC.seq ?_
    refine WL.p (by rfl) (Yl.assign (by rfl)) ?_
    refine WL.next ?_
    refine WC.ret ?_
    refine At.thenret ?_
    refine fin1' rfl (by rfl) ?_
    refine RetP.mk hs ?_
    simp_all
  ·
    replace h1 := lessN_nn (by omega) (of_decide_eq_false h1)
    refine WC.skipn ?_
    refine WC.seq ?_
    refine WL.p (by rfl) (Yl.loadAB agg25 (by rfl) hs (by repeat (first | exact List.mem_cons_self | apply List.mem_cons_of_mem)) (by rfl) (by rfl)) ?_
    refine WL.callp hs (by rfl) (Yc.func (by rfl) fn17) (c_laws_toRequest _ _) ?_
    clear hs; intro w hs
    refine WL.callp hs (by rfl) (Yc.func (by rfl) fn33) (c_spec_CanGuess _ _ (by first | assumption | (refine Ph.old ?_ hs; assumption))) ?_
    clear hs; intro w hs
    refine WL.p (by rfl) (Yl.assign (by rfl)) ?_
    refine WL.next ?_
    refine WC.seq ?_
    refine WL.p (by rfl) (Yl.loadAB agg25 (by rfl) hs (by repeat (first | exact List.mem_cons_self | apply List.mem_cons_of_mem)) (by rfl) (by rfl)) ?_
    refine WL.callp hs (by rfl) (Yc.func (by rfl) fn17) (c_laws_toRequest _ _) ?_
    clear hs; intro w hs
    refine WL.callp hs (by rfl) (Yc.func (by rfl) fn34) (c_impl_CanGuess _ _ (by first | assumption | (refine Ph.old ?_ hs; assumption))) ?_
    clear hs; intro w hs
    refine WL.p (by rfl) (Yl.assign (by rfl)) ?_
    refine WL.next ?_
    refine WC.seq' ?_
    refine WC.seq ?_
    refine WL.p (by rfl) (Yl.move (by rfl)) ?_
    refine WL.p (by rfl) (Yl.move (by rfl)) ?_
    refine WL.p (by rfl) (Yl.neb bool4 (by rfl) (by rfl)) ?_
    refine WL.next ?_
    refine WC.condS (by rfl) (fun h2 => ?_) (fun h2 => ?_)
    ·
      replace h2 := not_eq_true h2
      replace h2 := beq_false h2
      refine WC.seq ?_
      refine WL.p (by rfl) (Yl.assign (by rfl)) ?_
      refine WL.next ?_
      refine WC.ret ?_
      refine At.thenret ?_
      refine fin1' rfl (by rfl) ?_
      refine RetP.mk hs ?_
      simp_all
    ·
      replace h2 := not_eq_false h2
      replace h2 := beq_true h2
      refine WC.skipn ?_
      refine WC.seq ?_
      refine WL.p (by rfl) (Yl.assign (by rfl)) ?_
      refine WL.next ?_
      refine WC.ret ?_
      refine fin1' rfl (by rfl) ?_
      refine RetP.mk hs ?_
      simp_all

theorem c_laws_FnExactIsPassive (aL : (Sl TLine)) (w : World) (h_aL : Ph.ok w aL)  : Calls Try.prog 5 [Sl.v aL].toArray w (RetP w (Bo true)) := by
  refine enterN 27 Try.func5 rfl rfl rfl ?_
  have hs := Sat.start w
  refine WC.seq ?_
  refine WL.p (by rfl) (Yl.assign (by rfl)) ?_
  refine WL.next ?_
  refine WC.seq ?_
  refine WL.p (by rfl) (Yl.assign (by rfl)) ?_
  refine WL.next ?_
  refine WC.seq ?_
  refine WL.p (by rfl) (Yl.move (by rfl)) ?_
  refine WL.p (by rfl) (Yl.move (by rfl)) ?_
  refine WL.callp hs (by rfl) (Yc.func (by rfl) fn21) (c_laws_szLineS _ _ _ (Ph.old h_aL hs) (by first | assumption | omega | (simp only [lsz] at *; omega) | (simp only [lsz, strsz, TPolicy.size, TCache.size, TAddr.size, TRequest.size, TEntry.size, TResponse.size, TLine.size] at *; omega)) (by first | assumption | omega | (simp only [lsz] at *; omega) | (simp only [lsz, strsz, TPolicy.size, TCache.size, TAddr.size, TRequest.size, TEntry.size, TResponse.size, TLine.size] at *; omega))) ?_
  clear hs; intro w hs
  refine WL.p (by rfl) (Yl.assign (by rfl)) ?_
  refine WL.next ?_
  refine WC.seq' ?_
  refine WC.seq ?_
  refine WL.p (by rfl) (Yl.move (by rfl)) ?_
  refine WL.p (by rfl) (Yl.lss (by rfl) (by rfl)) ?_
  refine WL.next ?_
  refine WC.condS (by rfl) (fun h1 => ?_) (fun h1 => ?_)
  ·
    replace h1 := lessN_neg (of_decide_eq_true h1)
    refine WC.seq ?_
    refine WL.p (by rfl) (Yl.assign (by rfl)) ?_
    refine WL.next ?_
    refine WC.ret ?_
    refine At.thenret ?_
    refine fin1' rfl (by rfl) ?_
    refine RetP.mk hs ?_
    simp_all
  ·
    replace h1 := lessN_nn (by omega) (of_decide_eq_false h1)
    refine WC.skipn ?_
    refine WC.seq ?_
    refine WL.p (by rfl) (Yl.move (by rfl)) ?_
    refine WL.call hs (by rfl) (Yc.func (by rfl) fn23) (c_laws_toLineS _ _ (Ph.old h_aL hs) (by first | assumption | omega | (simp only [lsz] at *; omega) | (simp only [lsz, strsz, TPolicy.size, TCache.size, TAddr.size, TRequest.size, TEntry.size, TResponse.size, TLine.size] at *; omega))) ?_
    have hs0 := hs; clear hs; intro v w hb hR hs; clear hs
    obtain ⟨x1, rfl, hx1, hf1⟩ := hR
    obtain ⟨F1, hs⟩ := hf1.sat hs0 hb; clear hs0 hf1
    refine WL.callp hs (by rfl) (Yc.func (by rfl) fn22) (c_spec_IsPassive _ _ (hs.okow (x := x1) (F := F1) (by repeat (first | exact List.mem_cons_self | apply List.mem_cons_of_mem)))) ?_
    clear hs; intro w hs
    refine WL.p (by rfl) (Yl.assign (by rfl)) ?_
    refine WL.next ?_
    refine WC.seq ?_
    refine WL.p (by rfl) (Yl.move (by rfl)) ?_
    refine WL.call hs (by rfl) (Yc.func (by rfl) fn23) (c_laws_toLineS _ _ (Ph.old h_aL hs) (by first | assumption | omega | (simp only [lsz] at *; omega) | (simp only [lsz, strsz, TPolicy.size, TCache.size, TAddr.size, TRequest.size, TEntry.size, TResponse.size, TLine.size] at *; omega))) ?_
    have hs0 := hs; clear hs; intro v w hb hR hs; clear hs
    obtain ⟨x2, rfl, hx2, hf2⟩ := hR
    obtain ⟨F2, hs⟩ := hf2.sat hs0 hb; clear hs0 hf2
    refine WL.p (by rfl) (Yl.assign (by rfl)) ?_
    refine WL.next ?_
    refine WC.seq ?_
    refine WL.p (by rfl) (Yl.move (by rfl)) ?_
    refine WL.callp hs (by rfl) (Yc.func (by rfl) fn24) (c_impl_IsPassive _ _ (hs.okow (x := x2) (F := F2) (by repeat (first | exact List.mem_cons_self | apply List.mem_cons_of_mem)))) ?_
    clear hs; intro w hs
    refine WL.p (by rfl) (Yl.assign (by rfl)) ?_
    refine WL.next ?_
    refine WC.seq' ?_
    refine WC.seq ?_
    refine WL.p (by rfl) (Yl.move (by rfl)) ?_
    refine WL.p (by rfl) (Yl.move (by rfl)) ?_
    refine WL.p (by rfl) (Yl.neb bool4 (by rfl) (by rfl)) ?_
    refine WL.next ?_
    refine WC.condS (by rfl) (fun h2 => ?_) (fun h2 => ?_)
    ·
      replace h2 := not_eq_true h2
      replace h2 := beq_false h2
      refine WC.seq ?_
      refine WL.p (by rfl) (Yl.assign (by rfl)) ?_
      refine WL.next ?_
      refine WC.ret ?_
      refine At.thenret ?_
      refine fin1' rfl (by rfl) ?_
      refine RetP.mk hs ?_
      simp_all
    ·
      replace h2 := not_eq_false h2
      replace h2 := beq_true h2
      refine WC.skipn ?_
      refine WC.seq' ?_
      refine WC.seq ?_
      refine WL.p (by rfl) (Yl.move (by rfl)) ?_
      refine WL.p (by rfl) (Yl.move (by rfl)) ?_
      refine WL.call hs (by rfl) (Yc.func (by rfl) fn23) (c_laws_toLineS _ _ (Ph.old h_aL hs) (by first | assumption | omega | (simp only [lsz] at *; omega) | (simp only [lsz, strsz, TPolicy.size, TCache.size, TAddr.size, TRequest.size, TEntry.size, TResponse.size, TLine.size] at *; omega))) ?_
      have hs0 := hs; clear hs; intro v w hb hR hs; clear hs
      obtain ⟨x3, rfl, hx3, hf3⟩ := hR
      obtain ⟨F3, hs⟩ := hf3.sat hs0 hb; clear hs0 hf3
      refine WL.callp hs (by rfl) (Yc.func (by rfl) fn25) (c_laws_eqLineS _ _ _ (hs.okow (x := x2) (F := F2) (by repeat (first | exact List.mem_cons_self | apply List.mem_cons_of_mem))) (hs.okow (x := x3) (F := F3) (by repeat (first | exact List.mem_cons_self | apply List.mem_cons_of_mem)))) ?_
      clear hs; intro w hs
      refine WL.p (by rfl) (Yl.not (by rfl)) ?_
      refine WL.next ?_
      refine WC.condS (by rfl) (fun h3 => ?_) (fun h3 => ?_)
      ·
        replace h3 := not_eq_true h3
        replace h3 := of_decide_eq_false h3
        refine WC.seq ?_
        refine WL.p (by rfl) (Yl.assign (by rfl)) ?_
        refine WL.next ?_
        refine WC.ret ?_
        refine At.thenret ?_
        refine fin1' rfl (by rfl) ?_
        refine RetP.mk hs ?_
        simp_all
      ·
        replace h3 := not_eq_false h3
        replace h3 := of_decide_eq_true h3
        refine WC.skipn ?_
        refine WC.seq ?_
        refine WL.p (by rfl) (Yl.assign (by rfl)) ?_
        refine WL.next ?_
        refine WC.ret ?_
        refine fin1' rfl (by rfl) ?_
        refine RetP.mk hs ?_
        simp_all

end Go.Sw
