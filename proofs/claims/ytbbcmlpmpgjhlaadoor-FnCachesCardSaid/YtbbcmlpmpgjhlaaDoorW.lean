/- Walks: what each function of the program returns, for every input. Printed by gen.py. -/
import Derived.Test.YtbbcmlpmpgjhlaaDoorW1
set_option linter.all false
namespace Go.Sw
open Go Go.RowKit Go.Proofs

theorem c_impl_IsValue (s : Str) (w : World) (h_s : Ph.ok w s)  : Calls Tryd.prog 55 [S s].toArray w (RetP w (Bo (isValue s))) := by
 have hw : s.length ≤ 9223372036854775807 := h_s
 refine enterN 42 Tryd.func55 rfl rfl rfl ?_
 have hs := Sat.start w
 refine WC.seq ?_
 refine Qa ?_
 refine WL.next ?_
 refine WC.seq' ?_
 refine WC.seq ?_
 refine Qa ?_
 refine WL.next ?_
 refine WC.block ?_
 refine WC.loopC (ι := Nat) (fun k => s.length - k) (fun k => [(3, I (k : Int))]) (fun _ => []) (fun k => s.all valueByte = (s.drop k).all valueByte) [(0, _)] 0 (hs) ⟨by rfl, trivial⟩ ⟨by rfl, trivial⟩ ?_ ?_
 ·
  simp
 clear hs; rintro k w hJ hs
 simp only [List.nil_append] at hs
 refine WC.seq' ?_
 refine WC.seq ?_
 refine Qm ?_
 refine Qm ?_
 refine WL.p Q0 (Yl.len_str str9 Q0) ?_
 refine WL.p Q0 (Yl.lss Q0 Q0) ?_
 refine WL.next ?_
 refine WC.condS Q0 (fun h1 => ?_) (fun h1 => ?_)
 ·
  replace h1 := of_decide_eq_true h1
  obtain ⟨d, hd⟩ := exists_get (l := s) (k := k) Q7
  rw [drop_cons hd] at hJ
  refine WC.skipn ?_
  refine WC.seq' ?_
  refine WC.block ?_
  refine WC.seq ?_
  refine Qm ?_
  refine Qm ?_
  refine WL.p Q0 (Yl.index str9 Q0 Q0 Q0 (by first | assumption | exact List.getElem?_eq_getElem Q7)) ?_
  refine WL.p Q0 (Yl.geq Q0 Q0) ?_
  refine Qm ?_
  refine WL.split (d := 14) Q0 (fun h2 => ?_) (fun h2 => ?_)
  ·
   replace h2 := of_decide_eq_true h2
   refine WL.run (d := 14) Q0 Q0 ?_
   refine Qm ?_
   refine WL.run (d := 14) Q0 Q0 ?_
   refine Qm ?_
   refine WL.run (d := 14) Q0 Q0 ?_
   refine WL.p Q0 (Yl.index str9 Q0 Q0 Q0 (by first | assumption | exact List.getElem?_eq_getElem Q7)) ?_
   refine WL.run (d := 14) Q0 Q0 ?_
   refine WL.p Q0 (Yl.leq Q0 Q0) ?_
   refine WL.p Q0 (Yl.pickT Q0 Q0) ?_
   refine Qm ?_
   refine WL.split (d := 20) Q0 (fun h3 => ?_) (fun h3 => ?_)
   ·
    replace h3 := of_decide_eq_true h3
    refine WL.skip (d := 20) Q0 Q0 Q0 Q0 ?_
    refine WL.skip (d := 20) Q0 Q0 Q0 Q0 ?_
    refine WL.skip (d := 20) Q0 Q0 Q0 Q0 ?_
    refine WL.skip (d := 20) Q0 Q0 Q0 Q0 ?_
    refine WL.skip (d := 20) Q0 Q0 Q0 Q0 ?_
    refine WL.skipU (d := 25) Q0 Q0 Q0 ?_
    refine WL.skipU (d := 25) Q0 Q0 Q0 ?_
    refine WL.skipU (d := 25) Q0 Q0 Q0 ?_
    refine WL.skipU (d := 25) Q0 Q0 Q0 ?_
    refine WL.skip (d := 20) Q0 Q0 Q0 Q0 ?_
    refine WL.p Q0 (Yl.pickT Q0 Q0) ?_
    refine Qm ?_
    refine WL.skip (d := 32) Q0 Q0 Q0 Q0 ?_
    refine WL.skip (d := 32) Q0 Q0 Q0 Q0 ?_
    refine WL.skip (d := 32) Q0 Q0 Q0 Q0 ?_
    refine WL.skip (d := 32) Q0 Q0 Q0 Q0 ?_
    refine WL.p Q0 (Yl.pickT Q0 Q0) ?_
    refine WL.p Q0 (Yl.not Q0) ?_
    refine WL.next ?_
    refine WC.condF Q0 ?_
    refine WC.skip ?_
    refine At.blocknormal ?_
    refine At.then_ ?_
    refine WC.region ?_
    refine Qm ?_
    refine WL.p Q0 (Yl.add Q0 Q0 Q7) ?_
    refine Qa ?_
    refine WL.nil ?_
    refine At.roundC (k + 1) (hs.only Q2) ⟨by rfl, trivial⟩ ⟨by rfl, trivial⟩ ?_ ?_
    ·
     omega
    ·
     rw [hJ]; simp [valueByte, lower, digit]; omega
   ·
    replace h3 := of_decide_eq_false h3
    refine WL.run (d := 20) Q0 Q0 ?_
    refine Qm ?_
    refine WL.run (d := 20) Q0 Q0 ?_
    refine Qm ?_
    refine WL.run (d := 20) Q0 Q0 ?_
    refine WL.p Q0 (Yl.index str9 Q0 Q0 Q0 (by first | assumption | exact List.getElem?_eq_getElem Q7)) ?_
    refine WL.run (d := 20) Q0 Q0 ?_
    refine WL.p Q0 (Yl.geq Q0 Q0) ?_
    refine WL.run (d := 20) Q0 Q0 ?_
    refine Qm ?_
    refine WL.split (d := 25) Q0 (fun h4 => ?_) (fun h4 => ?_)
    ·
     replace h4 := of_decide_eq_true h4
     refine WL.run (d := 25) Q0 Q0 ?_
     refine Qm ?_
     refine WL.run (d := 25) Q0 Q0 ?_
     refine Qm ?_
     refine WL.run (d := 25) Q0 Q0 ?_
     refine WL.p Q0 (Yl.index str9 Q0 Q0 Q0 (by first | assumption | exact List.getElem?_eq_getElem Q7)) ?_
     refine WL.run (d := 25) Q0 Q0 ?_
     refine WL.p Q0 (Yl.leq Q0 Q0) ?_
     refine WL.run (d := 20) Q0 Q0 ?_
     refine WL.p Q0 (Yl.pickT Q0 Q0) ?_
     refine WL.p Q0 (Yl.pickF Q0 Q0) ?_
     refine Qm ?_
     refine WL.split (d := 32) Q0 (fun h5 => ?_) (fun h5 => ?_)
     ·
      replace h5 := of_decide_eq_true h5
      refine WL.skip (d := 32) Q0 Q0 Q0 Q0 ?_
      refine WL.skip (d := 32) Q0 Q0 Q0 Q0 ?_
      refine WL.skip (d := 32) Q0 Q0 Q0 Q0 ?_
      refine WL.skip (d := 32) Q0 Q0 Q0 Q0 ?_
      refine WL.p Q0 (Yl.pickT Q0 Q0) ?_
      refine WL.p Q0 (Yl.not Q0) ?_
      refine WL.next ?_
      refine WC.condF Q0 ?_
      refine WC.skip ?_
      refine At.blocknormal ?_
      refine At.then_ ?_
      refine WC.region ?_
      refine Qm ?_
      refine WL.p Q0 (Yl.add Q0 Q0 Q7) ?_
      refine Qa ?_
      refine WL.nil ?_
      refine At.roundC (k + 1) (hs.only Q2) ⟨by rfl, trivial⟩ ⟨by rfl, trivial⟩ ?_ ?_
      ·
       omega
      ·
       rw [hJ]; simp [valueByte, lower, digit]; omega
     ·
      replace h5 := of_decide_eq_false h5
      refine WL.run (d := 32) Q0 Q0 ?_
      refine Qm ?_
      refine WL.run (d := 32) Q0 Q0 ?_
      refine Qm ?_
      refine WL.run (d := 32) Q0 Q0 ?_
      refine WL.p Q0 (Yl.index str9 Q0 Q0 Q0 (by first | assumption | exact List.getElem?_eq_getElem Q7)) ?_
      refine WL.run (d := 32) Q0 Q0 ?_
      refine WL.p Q0 (Yl.eqi Q0 Q0) ?_
      refine WL.p Q0 (Yl.pickF Q0 Q0) ?_
      refine WL.p Q0 (Yl.not Q0) ?_
      refine WL.next ?_
      refine WC.condS Q0 (fun h6 => ?_) (fun h6 => ?_)
      ·
       replace h6 := not_eq_true h6
       replace h6 := of_decide_eq_false h6
       refine WC.seq ?_
       refine Qa ?_
       refine WL.next ?_
       refine WC.ret ?_
       refine At.blockret ?_
       refine At.thenret ?_
       refine At.thenret ?_
       refine At.blockret ?_
       refine At.thenret ?_
       refine fin1' rfl Q0 ?_
       refine RetP.mk hs ?_
       first
        | (simp [isValue, hJ, valueByte, lower, digit]; done)
        | (simp [isValue, hJ, valueByte, lower, digit]; omega)
        | simp_all [isValue, hJ, valueByte, lower, digit]
      ·
       replace h6 := not_eq_false h6
       replace h6 := of_decide_eq_true h6
       refine WC.skip ?_
       refine At.blocknormal ?_
       refine At.then_ ?_
       refine WC.region ?_
       refine Qm ?_
       refine WL.p Q0 (Yl.add Q0 Q0 Q7) ?_
       refine Qa ?_
       refine WL.nil ?_
       refine At.roundC (k + 1) (hs.only Q2) ⟨by rfl, trivial⟩ ⟨by rfl, trivial⟩ ?_ ?_
       ·
        omega
       ·
        rw [hJ]; simp [valueByte, lower, digit]; omega
    ·
     replace h4 := of_decide_eq_false h4
     refine WL.skip (d := 25) Q0 Q0 Q0 Q0 ?_
     refine WL.skip (d := 25) Q0 Q0 Q0 Q0 ?_
     refine WL.skip (d := 25) Q0 Q0 Q0 Q0 ?_
     refine WL.skip (d := 25) Q0 Q0 Q0 Q0 ?_
     refine WL.run (d := 20) Q0 Q0 ?_
     refine WL.p Q0 (Yl.pickF Q0 Q0) ?_
     refine WL.p Q0 (Yl.pickF Q0 Q0) ?_
     refine Qm ?_
     refine WL.run (d := 32) Q0 Q0 ?_
     refine Qm ?_
     refine WL.run (d := 32) Q0 Q0 ?_
     refine Qm ?_
     refine WL.run (d := 32) Q0 Q0 ?_
     refine WL.p Q0 (Yl.index str9 Q0 Q0 Q0 (by first | assumption | exact List.getElem?_eq_getElem Q7)) ?_
     refine WL.run (d := 32) Q0 Q0 ?_
     refine WL.p Q0 (Yl.eqi Q0 Q0) ?_
     refine WL.p Q0 (Yl.pickF Q0 Q0) ?_
     refine WL.p Q0 (Yl.not Q0) ?_
     refine WL.next ?_
     refine WC.condS Q0 (fun h5 => ?_) (fun h5 => ?_)
     ·
      replace h5 := not_eq_true h5
      replace h5 := of_decide_eq_false h5
      refine WC.seq ?_
      refine Qa ?_
      refine WL.next ?_
      refine WC.ret ?_
      refine At.blockret ?_
      refine At.thenret ?_
      refine At.thenret ?_
      refine At.blockret ?_
      refine At.thenret ?_
      refine fin1' rfl Q0 ?_
      refine RetP.mk hs ?_
      first
       | (simp [isValue, hJ, valueByte, lower, digit]; done)
       | (simp [isValue, hJ, valueByte, lower, digit]; omega)
       | simp_all [isValue, hJ, valueByte, lower, digit]
     ·
      replace h5 := not_eq_false h5
      replace h5 := of_decide_eq_true h5
      refine WC.skip ?_
      refine At.blocknormal ?_
      refine At.then_ ?_
      refine WC.region ?_
      refine Qm ?_
      refine WL.p Q0 (Yl.add Q0 Q0 Q7) ?_
      refine Qa ?_
      refine WL.nil ?_
      refine At.roundC (k + 1) (hs.only Q2) ⟨by rfl, trivial⟩ ⟨by rfl, trivial⟩ ?_ ?_
      ·
       omega
      ·
       rw [hJ]; simp [valueByte, lower, digit]; omega
  ·
   replace h2 := of_decide_eq_false h2
   refine WL.skip (d := 14) Q0 Q0 Q0 Q0 ?_
   refine WL.skip (d := 14) Q0 Q0 Q0 Q0 ?_
   refine WL.skip (d := 14) Q0 Q0 Q0 Q0 ?_
   refine WL.skip (d := 14) Q0 Q0 Q0 Q0 ?_
   refine WL.p Q0 (Yl.pickF Q0 Q0) ?_
   refine Qm ?_
   refine WL.run (d := 20) Q0 Q0 ?_
   refine Qm ?_
   refine WL.run (d := 20) Q0 Q0 ?_
   refine Qm ?_
   refine WL.run (d := 20) Q0 Q0 ?_
   refine WL.p Q0 (Yl.index str9 Q0 Q0 Q0 (by first | assumption | exact List.getElem?_eq_getElem Q7)) ?_
   refine WL.run (d := 20) Q0 Q0 ?_
   refine WL.p Q0 (Yl.geq Q0 Q0) ?_
   refine WL.run (d := 20) Q0 Q0 ?_
   refine Qm ?_
   refine WL.split (d := 25) Q0 (fun h3 => ?_) (fun h3 => ?_)
   ·
    replace h3 := of_decide_eq_true h3
    refine WL.run (d := 25) Q0 Q0 ?_
    refine Qm ?_
    refine WL.run (d := 25) Q0 Q0 ?_
    refine Qm ?_
    refine WL.run (d := 25) Q0 Q0 ?_
    refine WL.p Q0 (Yl.index str9 Q0 Q0 Q0 (by first | assumption | exact List.getElem?_eq_getElem Q7)) ?_
    refine WL.run (d := 25) Q0 Q0 ?_
    refine WL.p Q0 (Yl.leq Q0 Q0) ?_
    refine WL.run (d := 20) Q0 Q0 ?_
    refine WL.p Q0 (Yl.pickT Q0 Q0) ?_
    refine WL.p Q0 (Yl.pickF Q0 Q0) ?_
    refine Qm ?_
    refine WL.split (d := 32) Q0 (fun h4 => ?_) (fun h4 => ?_)
    ·
     replace h4 := of_decide_eq_true h4
     refine WL.skip (d := 32) Q0 Q0 Q0 Q0 ?_
     refine WL.skip (d := 32) Q0 Q0 Q0 Q0 ?_
     refine WL.skip (d := 32) Q0 Q0 Q0 Q0 ?_
     refine WL.skip (d := 32) Q0 Q0 Q0 Q0 ?_
     refine WL.p Q0 (Yl.pickT Q0 Q0) ?_
     refine WL.p Q0 (Yl.not Q0) ?_
     refine WL.next ?_
     refine WC.condF Q0 ?_
     refine WC.skip ?_
     refine At.blocknormal ?_
     refine At.then_ ?_
     refine WC.region ?_
     refine Qm ?_
     refine WL.p Q0 (Yl.add Q0 Q0 Q7) ?_
     refine Qa ?_
     refine WL.nil ?_
     refine At.roundC (k + 1) (hs.only Q2) ⟨by rfl, trivial⟩ ⟨by rfl, trivial⟩ ?_ ?_
     ·
      omega
     ·
      rw [hJ]; simp [valueByte, lower, digit]; omega
    ·
     replace h4 := of_decide_eq_false h4
     refine WL.run (d := 32) Q0 Q0 ?_
     refine Qm ?_
     refine WL.run (d := 32) Q0 Q0 ?_
     refine Qm ?_
     refine WL.run (d := 32) Q0 Q0 ?_
     refine WL.p Q0 (Yl.index str9 Q0 Q0 Q0 (by first | assumption | exact List.getElem?_eq_getElem Q7)) ?_
     refine WL.run (d := 32) Q0 Q0 ?_
     refine WL.p Q0 (Yl.eqi Q0 Q0) ?_
     refine WL.p Q0 (Yl.pickF Q0 Q0) ?_
     refine WL.p Q0 (Yl.not Q0) ?_
     refine WL.next ?_
     refine WC.condS Q0 (fun h5 => ?_) (fun h5 => ?_)
     ·
      replace h5 := not_eq_true h5
      replace h5 := of_decide_eq_false h5
      refine WC.seq ?_
      refine Qa ?_
      refine WL.next ?_
      refine WC.ret ?_
      refine At.blockret ?_
      refine At.thenret ?_
      refine At.thenret ?_
      refine At.blockret ?_
      refine At.thenret ?_
      refine fin1' rfl Q0 ?_
      refine RetP.mk hs ?_
      first
       | (simp [isValue, hJ, valueByte, lower, digit]; done)
       | (simp [isValue, hJ, valueByte, lower, digit]; omega)
       | simp_all [isValue, hJ, valueByte, lower, digit]
     ·
      replace h5 := not_eq_false h5
      replace h5 := of_decide_eq_true h5
      refine WC.skip ?_
      refine At.blocknormal ?_
      refine At.then_ ?_
      refine WC.region ?_
      refine Qm ?_
      refine WL.p Q0 (Yl.add Q0 Q0 Q7) ?_
      refine Qa ?_
      refine WL.nil ?_
      refine At.roundC (k + 1) (hs.only Q2) ⟨by rfl, trivial⟩ ⟨by rfl, trivial⟩ ?_ ?_
      ·
       omega
      ·
       rw [hJ]; simp [valueByte, lower, digit]; omega
   ·
    replace h3 := of_decide_eq_false h3
    refine WL.skip (d := 25) Q0 Q0 Q0 Q0 ?_
    refine WL.skip (d := 25) Q0 Q0 Q0 Q0 ?_
    refine WL.skip (d := 25) Q0 Q0 Q0 Q0 ?_
    refine WL.skip (d := 25) Q0 Q0 Q0 Q0 ?_
    refine WL.run (d := 20) Q0 Q0 ?_
    refine WL.p Q0 (Yl.pickF Q0 Q0) ?_
    refine WL.p Q0 (Yl.pickF Q0 Q0) ?_
    refine Qm ?_
    refine WL.run (d := 32) Q0 Q0 ?_
    refine Qm ?_
    refine WL.run (d := 32) Q0 Q0 ?_
    refine Qm ?_
    refine WL.run (d := 32) Q0 Q0 ?_
    refine WL.p Q0 (Yl.index str9 Q0 Q0 Q0 (by first | assumption | exact List.getElem?_eq_getElem Q7)) ?_
    refine WL.run (d := 32) Q0 Q0 ?_
    refine WL.p Q0 (Yl.eqi Q0 Q0) ?_
    refine WL.p Q0 (Yl.pickF Q0 Q0) ?_
    refine WL.p Q0 (Yl.not Q0) ?_
    refine WL.next ?_
    refine WC.condS Q0 (fun h4 => ?_) (fun h4 => ?_)
    ·
     replace h4 := not_eq_true h4
     replace h4 := of_decide_eq_false h4
     refine WC.seq ?_
     refine Qa ?_
     refine WL.next ?_
     refine WC.ret ?_
     refine At.blockret ?_
     refine At.thenret ?_
     refine At.thenret ?_
     refine At.blockret ?_
     refine At.thenret ?_
     refine fin1' rfl Q0 ?_
     refine RetP.mk hs ?_
     first
      | (simp [isValue, hJ, valueByte, lower, digit]; done)
      | (simp [isValue, hJ, valueByte, lower, digit]; omega)
      | simp_all [isValue, hJ, valueByte, lower, digit]
    ·
     replace h4 := not_eq_false h4
     replace h4 := of_decide_eq_true h4
     refine WC.skip ?_
     refine At.blocknormal ?_
     refine At.then_ ?_
     refine WC.region ?_
     refine Qm ?_
     refine WL.p Q0 (Yl.add Q0 Q0 Q7) ?_
     refine Qa ?_
     refine WL.nil ?_
     refine At.roundC (k + 1) (hs.only Q2) ⟨by rfl, trivial⟩ ⟨by rfl, trivial⟩ ?_ ?_
     ·
      omega
     ·
      rw [hJ]; simp [valueByte, lower, digit]; omega
 ·
  replace h1 := of_decide_eq_false h1
  rw [drop_out (l := s) Q7] at hJ
  refine WC.exit ?_
  refine At.thenexit ?_
  refine At.thenexit ?_
  refine At.blockexit ?_
  refine At.then_ ?_
  refine WC.seq ?_
  refine Qm ?_
  refine WL.p Q0 (Yl.len_str str9 Q0) ?_
  refine WL.callp hs Q0 (Yc.func Q0 fn73) (c_impl_InRange _ _ _ _) ?_
  clear hs; intro w hs
  refine Qa ?_
  refine WL.next ?_
  refine WC.ret ?_
  refine fin1' rfl Q0 ?_
  refine RetP.mk hs ?_
  first
   | (simp [isValue, hJ, valueByte, lower, digit]; done)
   | (simp [isValue, hJ, valueByte, lower, digit]; omega)
   | simp_all [isValue, hJ, valueByte, lower, digit]

theorem c_impl_IsPolicy (p : PPolicy) (w : World) (h_p : Ph.ok w p)  : Calls Tryd.prog 11 [.agg #[Bo p.set, Sl.v p.scripts, Sl.v p.styles, Sl.v p.images, S p.nonce]].toArray w (RetP w (Bo (p.lg.is))) := by
 refine enterN 50 Tryd.func11 rfl rfl rfl ?_
 have hs := Sat.start w
 refine WC.seq ?_
 refine WL.r Q0 (Yr.box hs Q0 Q0) ?_
 clear hs; rintro _ w ⟨b1, rfl, hb, hs⟩; clear hb
 refine Qa ?_
 refine WL.next ?_
 refine WC.seq' ?_
 refine WC.seq ?_
 refine WL.p Q0 (Yl.fieldAddr fa26_0 Q0) ?_
 refine WL.p Q0 (Yl.loadB sca4 Q0 hs Q1 Q0) ?_
 refine WL.p Q0 (Yl.not Q0) ?_
 refine WL.next ?_
 refine WC.condS Q0 (fun h1 => ?_) (fun h1 => ?_)
 ·
  replace h1 := not_eq_true h1
  refine WC.seq ?_
  refine WL.p Q0 (Yl.fieldAddr fa26_1 Q0) ?_
  refine WL.p Q0 (Yl.loadB sca24 Q0 hs Q1 Q0) ?_
  refine WL.p Q0 (Yl.len_sl slu24 Q0) ?_
  refine WL.p Q0 (Yl.eqi Q0 Q0) ?_
  refine Qm ?_
  refine WL.split (d := 10) Q0 (fun h2 => ?_) (fun h2 => ?_)
  ·
   replace h2 := of_decide_eq_true h2
   refine WL.run (d := 10) Q0 Q0 ?_
   refine WL.p Q0 (Yl.fieldAddr fa26_2 Q0) ?_
   refine WL.run (d := 10) Q0 Q0 ?_
   refine WL.p Q0 (Yl.loadB sca24 Q0 hs Q1 Q0) ?_
   refine WL.run (d := 10) Q0 Q0 ?_
   refine WL.p Q0 (Yl.len_sl slu24 Q0) ?_
   refine WL.run (d := 10) Q0 Q0 ?_
   refine WL.p Q0 (Yl.eqi Q0 Q0) ?_
   refine WL.p Q0 (Yl.pickT Q0 Q0) ?_
   refine Qm ?_
   refine WL.split (d := 16) Q0 (fun h3 => ?_) (fun h3 => ?_)
   ·
    replace h3 := of_decide_eq_true h3
    refine WL.run (d := 16) Q0 Q0 ?_
    refine WL.p Q0 (Yl.fieldAddr fa26_3 Q0) ?_
    refine WL.run (d := 16) Q0 Q0 ?_
    refine WL.p Q0 (Yl.loadB sca24 Q0 hs Q1 Q0) ?_
    refine WL.run (d := 16) Q0 Q0 ?_
    refine WL.p Q0 (Yl.len_sl slu24 Q0) ?_
    refine WL.run (d := 16) Q0 Q0 ?_
    refine WL.p Q0 (Yl.eqi Q0 Q0) ?_
    refine WL.p Q0 (Yl.pickT Q0 Q0) ?_
    refine Qm ?_
    refine WL.split (d := 22) Q0 (fun h4 => ?_) (fun h4 => ?_)
    ·
     replace h4 := of_decide_eq_true h4
     refine WL.run (d := 22) Q0 Q0 ?_
     refine WL.p Q0 (Yl.fieldAddr fa26_4 Q0) ?_
     refine WL.run (d := 22) Q0 Q0 ?_
     refine WL.p Q0 (Yl.loadB sca9 Q0 hs Q1 Q0) ?_
     refine WL.run (d := 22) Q0 Q0 ?_
     refine WL.p Q0 (Yl.eqs Q0 Q0) ?_
     refine WL.p Q0 (Yl.pickT Q0 Q0) ?_
     refine Qa ?_
     refine WL.next ?_
     refine WC.ret ?_
     refine At.thenret ?_
     refine fin1' rfl Q0 ?_
     refine RetP.mk hs ?_
     simp_all [TPolicy.is]
    ·
     replace h4 := of_decide_eq_false h4
     refine WL.skip (d := 22) Q0 Q0 Q0 Q0 ?_
     refine WL.skip (d := 22) Q0 Q0 Q0 Q0 ?_
     refine WL.skip (d := 22) Q0 Q0 Q0 Q0 ?_
     refine WL.p Q0 (Yl.pickF Q0 Q0) ?_
     refine Qa ?_
     refine WL.next ?_
     refine WC.ret ?_
     refine At.thenret ?_
     refine fin1' rfl Q0 ?_
     refine RetP.mk hs ?_
     simp_all [TPolicy.is]
   ·
    replace h3 := of_decide_eq_false h3
    refine WL.skip (d := 16) Q0 Q0 Q0 Q0 ?_
    refine WL.skip (d := 16) Q0 Q0 Q0 Q0 ?_
    refine WL.skip (d := 16) Q0 Q0 Q0 Q0 ?_
    refine WL.skip (d := 16) Q0 Q0 Q0 Q0 ?_
    refine WL.p Q0 (Yl.pickF Q0 Q0) ?_
    refine Qm ?_
    refine WL.skip (d := 22) Q0 Q0 Q0 Q0 ?_
    refine WL.skip (d := 22) Q0 Q0 Q0 Q0 ?_
    refine WL.skip (d := 22) Q0 Q0 Q0 Q0 ?_
    refine WL.p Q0 (Yl.pickF Q0 Q0) ?_
    refine Qa ?_
    refine WL.next ?_
    refine WC.ret ?_
    refine At.thenret ?_
    refine fin1' rfl Q0 ?_
    refine RetP.mk hs ?_
    simp_all [TPolicy.is]
  ·
   replace h2 := of_decide_eq_false h2
   refine WL.skip (d := 10) Q0 Q0 Q0 Q0 ?_
   refine WL.skip (d := 10) Q0 Q0 Q0 Q0 ?_
   refine WL.skip (d := 10) Q0 Q0 Q0 Q0 ?_
   refine WL.skip (d := 10) Q0 Q0 Q0 Q0 ?_
   refine WL.p Q0 (Yl.pickF Q0 Q0) ?_
   refine Qm ?_
   refine WL.skip (d := 16) Q0 Q0 Q0 Q0 ?_
   refine WL.skip (d := 16) Q0 Q0 Q0 Q0 ?_
   refine WL.skip (d := 16) Q0 Q0 Q0 Q0 ?_
   refine WL.skip (d := 16) Q0 Q0 Q0 Q0 ?_
   refine WL.p Q0 (Yl.pickF Q0 Q0) ?_
   refine Qm ?_
   refine WL.skip (d := 22) Q0 Q0 Q0 Q0 ?_
   refine WL.skip (d := 22) Q0 Q0 Q0 Q0 ?_
   refine WL.skip (d := 22) Q0 Q0 Q0 Q0 ?_
   refine WL.p Q0 (Yl.pickF Q0 Q0) ?_
   refine Qa ?_
   refine WL.next ?_
   refine WC.ret ?_
   refine At.thenret ?_
   refine fin1' rfl Q0 ?_
   refine RetP.mk hs ?_
   simp_all [TPolicy.is]
 ·
  replace h1 := not_eq_false h1
  refine WC.skipn ?_
  refine WC.seq ?_
  refine WL.p Q0 (Yl.fieldAddr fa26_1 Q0) ?_
  refine WL.p Q0 (Yl.loadB sca24 Q0 hs Q1 Q0) ?_
  refine WL.callp hs Q0 (Yc.func Q0 fn54) (c_impl_areHosts _ _ (Ph.old h_p.scripts hs)) ?_
  clear hs; intro w hs
  refine Qm ?_
  refine WL.split (d := 30) Q0 (fun h2 => ?_) (fun h2 => ?_)
  ·
   refine WL.run (d := 30) Q0 Q0 ?_
   refine WL.p Q0 (Yl.fieldAddr fa26_2 Q0) ?_
   refine WL.run (d := 30) Q0 Q0 ?_
   refine WL.p Q0 (Yl.loadB sca24 Q0 hs Q1 Q0) ?_
   refine WL.run (d := 30) Q0 Q0 ?_
   refine WL.callp hs Q0 (Yc.func Q0 fn54) (c_impl_areHosts _ _ (Ph.old h_p.styles hs)) ?_
   clear hs; intro w hs
   refine WL.p Q0 (Yl.pickT Q0 Q0) ?_
   refine Qm ?_
   refine WL.split (d := 35) Q0 (fun h3 => ?_) (fun h3 => ?_)
   ·
    refine WL.run (d := 35) Q0 Q0 ?_
    refine WL.p Q0 (Yl.fieldAddr fa26_3 Q0) ?_
    refine WL.run (d := 35) Q0 Q0 ?_
    refine WL.p Q0 (Yl.loadB sca24 Q0 hs Q1 Q0) ?_
    refine WL.run (d := 35) Q0 Q0 ?_
    refine WL.callp hs Q0 (Yc.func Q0 fn54) (c_impl_areHosts _ _ (Ph.old h_p.images hs)) ?_
    clear hs; intro w hs
    refine WL.p Q0 (Yl.pickT Q0 Q0) ?_
    refine Qm ?_
    refine WL.split (d := 40) Q0 (fun h4 => ?_) (fun h4 => ?_)
    ·
     refine WL.run (d := 40) Q0 Q0 ?_
     refine WL.p Q0 (Yl.fieldAddr fa26_4 Q0) ?_
     refine WL.run (d := 40) Q0 Q0 ?_
     refine WL.p Q0 (Yl.loadB sca9 Q0 hs Q1 Q0) ?_
     refine WL.run (d := 40) Q0 Q0 ?_
     refine WL.p Q0 (Yl.eqs Q0 Q0) ?_
     refine WL.run (d := 40) Q0 Q0 ?_
     refine Qm ?_
     refine WL.split (d := 44) Q0 (fun h5 => ?_) (fun h5 => ?_)
     ·
      replace h5 := of_decide_eq_true h5
      refine WL.skip (d := 44) Q0 Q0 Q0 Q0 ?_
      refine WL.skip (d := 44) Q0 Q0 Q0 Q0 ?_
      refine WL.skip (d := 44) Q0 Q0 Q0 Q0 ?_
      refine WL.run (d := 40) Q0 Q0 ?_
      refine WL.p Q0 (Yl.pickT Q0 Q0) ?_
      refine WL.p Q0 (Yl.pickT Q0 Q0) ?_
      refine Qa ?_
      refine WL.next ?_
      refine WC.ret ?_
      refine fin1' rfl Q0 ?_
      refine RetP.mk hs ?_
      simp_all [TPolicy.is]
     ·
      replace h5 := of_decide_eq_false h5
      refine WL.run (d := 44) Q0 Q0 ?_
      refine WL.p Q0 (Yl.fieldAddr fa26_4 Q0) ?_
      refine WL.run (d := 44) Q0 Q0 ?_
      refine WL.p Q0 (Yl.loadB sca9 Q0 hs Q1 Q0) ?_
      refine WL.run (d := 44) Q0 Q0 ?_
      refine WL.callp hs Q0 (Yc.func Q0 fn55) (c_impl_IsValue _ _ (Ph.old h_p.nonce hs)) ?_
      clear hs; intro w hs
      refine WL.run (d := 40) Q0 Q0 ?_
      refine WL.p Q0 (Yl.pickF Q0 Q0) ?_
      refine WL.p Q0 (Yl.pickT Q0 Q0) ?_
      refine Qa ?_
      refine WL.next ?_
      refine WC.ret ?_
      refine fin1' rfl Q0 ?_
      refine RetP.mk hs ?_
      simp_all [TPolicy.is]
    ·
     refine WL.skip (d := 40) Q0 Q0 Q0 Q0 ?_
     refine WL.skip (d := 40) Q0 Q0 Q0 Q0 ?_
     refine WL.skip (d := 40) Q0 Q0 Q0 Q0 ?_
     refine WL.skip (d := 40) Q0 Q0 Q0 Q0 ?_
     refine WL.skipU (d := 44) Q0 Q0 Q0 ?_
     refine WL.skipU (d := 44) Q0 Q0 Q0 ?_
     refine WL.skipU (d := 44) Q0 Q0 Q0 ?_
     refine WL.skip (d := 40) Q0 Q0 Q0 Q0 ?_
     refine WL.p Q0 (Yl.pickF Q0 Q0) ?_
     refine Qa ?_
     refine WL.next ?_
     refine WC.ret ?_
     refine fin1' rfl Q0 ?_
     refine RetP.mk hs ?_
     simp_all [TPolicy.is]
   ·
    refine WL.skip (d := 35) Q0 Q0 Q0 Q0 ?_
    refine WL.skip (d := 35) Q0 Q0 Q0 Q0 ?_
    refine WL.skip (d := 35) Q0 Q0 Q0 Q0 ?_
    refine WL.p Q0 (Yl.pickF Q0 Q0) ?_
    refine Qm ?_
    refine WL.skip (d := 40) Q0 Q0 Q0 Q0 ?_
    refine WL.skip (d := 40) Q0 Q0 Q0 Q0 ?_
    refine WL.skip (d := 40) Q0 Q0 Q0 Q0 ?_
    refine WL.skip (d := 40) Q0 Q0 Q0 Q0 ?_
    refine WL.skipU (d := 44) Q0 Q0 Q0 ?_
    refine WL.skipU (d := 44) Q0 Q0 Q0 ?_
    refine WL.skipU (d := 44) Q0 Q0 Q0 ?_
    refine WL.skip (d := 40) Q0 Q0 Q0 Q0 ?_
    refine WL.p Q0 (Yl.pickF Q0 Q0) ?_
    refine Qa ?_
    refine WL.next ?_
    refine WC.ret ?_
    refine fin1' rfl Q0 ?_
    refine RetP.mk hs ?_
    simp_all [TPolicy.is]
  ·
   refine WL.skip (d := 30) Q0 Q0 Q0 Q0 ?_
   refine WL.skip (d := 30) Q0 Q0 Q0 Q0 ?_
   refine WL.skip (d := 30) Q0 Q0 Q0 Q0 ?_
   refine WL.p Q0 (Yl.pickF Q0 Q0) ?_
   refine Qm ?_
   refine WL.skip (d := 35) Q0 Q0 Q0 Q0 ?_
   refine WL.skip (d := 35) Q0 Q0 Q0 Q0 ?_
   refine WL.skip (d := 35) Q0 Q0 Q0 Q0 ?_
   refine WL.p Q0 (Yl.pickF Q0 Q0) ?_
   refine Qm ?_
   refine WL.skip (d := 40) Q0 Q0 Q0 Q0 ?_
   refine WL.skip (d := 40) Q0 Q0 Q0 Q0 ?_
   refine WL.skip (d := 40) Q0 Q0 Q0 Q0 ?_
   refine WL.skip (d := 40) Q0 Q0 Q0 Q0 ?_
   refine WL.skipU (d := 44) Q0 Q0 Q0 ?_
   refine WL.skipU (d := 44) Q0 Q0 Q0 ?_
   refine WL.skipU (d := 44) Q0 Q0 Q0 ?_
   refine WL.skip (d := 40) Q0 Q0 Q0 Q0 ?_
   refine WL.p Q0 (Yl.pickF Q0 Q0) ?_
   refine Qa ?_
   refine WL.next ?_
   refine WC.ret ?_
   refine fin1' rfl Q0 ?_
   refine RetP.mk hs ?_
   simp_all [TPolicy.is]

theorem c_strings_Join (elems : (Sl Str)) (sep : Str) (w : World) (h_elems : Ph.ok w elems) (h1 : elems.l.length ≤ 140737488355328) (h2 : (joinS elems.l sep).length ≤ 140737488355328) : Calls Tryd.prog 53 [Sl.v elems, S sep].toArray w (RetP w (S (joinS elems.l sep))) := by
 exact join_calls Tryd.strings_Join_none Tryd.strings_Join elems sep w h_elems h1 h2

theorem c_impl_FormatPolicy (p : PPolicy) (w : World) (h_p : Ph.ok w p) (hb : p.lg.size ≤ 2097152) : Calls Tryd.prog 10 [.agg #[Bo p.set, Sl.v p.scripts, Sl.v p.styles, Sl.v p.images, S p.nonce]].toArray w (RetP w (S (fmtPolicy p.lg))) := by
 refine enterN 40 Tryd.func10 rfl rfl rfl ?_
 have hs := Sat.start w
 refine WC.seq ?_
 refine WL.r Q0 (Yr.box hs Q0 Q0) ?_
 clear hs; rintro _ w ⟨b1, rfl, hb, hs⟩; clear hb
 refine Qa ?_
 refine WL.next ?_
 refine WC.seq' ?_
 refine WC.seq ?_
 refine WL.p Q0 (Yl.loadAB agg26 Q0 hs Q1 Q0 Q0) ?_
 refine WL.callp hs Q0 (Yc.func Q0 fn11) (c_impl_IsPolicy _ _ (Ph.old h_p hs)) ?_
 clear hs; intro w hs
 refine WL.p Q0 (Yl.not Q0) ?_
 refine Qm ?_
 refine WL.split (d := 7) Q0 (fun h1 => ?_) (fun h1 => ?_)
 ·
  replace h1 := not_eq_true h1
  refine WL.skip (d := 7) Q0 Q0 Q0 Q0 ?_
  refine WL.skip (d := 7) Q0 Q0 Q0 Q0 ?_
  refine WL.skip (d := 7) Q0 Q0 Q0 Q0 ?_
  refine WL.p Q0 (Yl.pickT Q0 Q0) ?_
  refine WL.next ?_
  refine WC.condT Q0 ?_
  refine WC.seq ?_
  refine Qa ?_
  refine WL.next ?_
  refine WC.ret ?_
  refine At.thenret ?_
  refine fin1' rfl Q0 ?_
  refine RetP.mk hs ?_
  first
   | (simp [fmtPolicy, h1]; done)
   | (simp [fmtPolicy, h2]; done)
   | (simp [fmtPolicy, h1, h2, h3, wordsText]; done)
 ·
  replace h1 := not_eq_false h1
  refine WL.run (d := 7) Q0 Q0 ?_
  refine WL.p Q0 (Yl.fieldAddr fa26_0 Q0) ?_
  refine WL.run (d := 7) Q0 Q0 ?_
  refine WL.p Q0 (Yl.loadB sca4 Q0 hs Q1 Q0) ?_
  refine WL.run (d := 7) Q0 Q0 ?_
  refine WL.p Q0 (Yl.not Q0) ?_
  refine WL.p Q0 (Yl.pickF Q0 Q0) ?_
  refine WL.next ?_
  refine WC.condS Q0 (fun h2 => ?_) (fun h2 => ?_)
  ·
   replace h2 := not_eq_true h2
   refine WC.seq ?_
   refine Qa ?_
   refine WL.next ?_
   refine WC.ret ?_
   refine At.thenret ?_
   refine fin1' rfl Q0 ?_
   refine RetP.mk hs ?_
   first
    | (simp [fmtPolicy, h1]; done)
    | (simp [fmtPolicy, h2]; done)
    | (simp [fmtPolicy, h1, h2, h3, wordsText]; done)
  ·
   replace h2 := not_eq_false h2
   refine WC.skipn ?_
   refine WC.anyn mixed hs ?_
   clear hs; intro w hs
   refine WA.p (i := 1) Q0 Q6 Q6 Q6 Q0 (hs.only Q2) (fun w hs => Yl.fieldAddr fa26_1 Q0) ?_
   refine WA.p (i := 2) Q0 Q6 Q6 Q6 Q0 (hs.only Q2) (fun w hs => Yl.loadB sca24 Q0 hs Q1 Q0) ?_
   refine WA.p (i := 7) Q0 Q6 Q6 Q6 Q0 (hs.only Q2) (fun w hs => Yl.fieldAddr fa26_2 Q0) ?_
   refine WA.p (i := 8) Q0 Q6 Q6 Q6 Q0 (hs.only Q2) (fun w hs => Yl.loadB sca24 Q0 hs Q1 Q0) ?_
   refine WA.p (i := 14) Q0 Q6 Q6 Q6 Q0 (hs.only Q2) (fun w hs => Yl.fieldAddr fa26_3 Q0) ?_
   refine WA.p (i := 15) Q0 Q6 Q6 Q6 Q0 (hs.only Q2) (fun w hs => Yl.loadB sca24 Q0 hs Q1 Q0) ?_
   refine WA.dag' [(⟨0, 12, [], (fun _ v cs => ∃ b, v = .slice (some ⟨b, 0, none⟩) 1 1 ∧ cs = [box b 9 (([S (([115, 99, 114, 105, 112, 116] : Str))]))])⟩, []), (⟨3, 15, [], (fun _ v cs => ∃ (x : Sl Str) (F : List Nat), v = x.v ∧ cs = [ow x F] ∧ x.l = [([115, 99, 114, 105, 112, 116] : Str)] ++ p.scripts.l)⟩, [(0, true)]), (⟨4, 16, [], (fun _ v cs => v = S (joinS ([([115, 99, 114, 105, 112, 116] : Str)] ++ p.scripts.l) ([32] : Str)) ∧ cs = [])⟩, [(1, false)]), (⟨5, 17, [], (fun _ v cs => v = S (((joinS ([([115, 99, 114, 105, 112, 116] : Str)] ++ p.scripts.l) ([32] : Str)) ++ ([59] : Str))) ∧ cs = [])⟩, [(2, false)]), (⟨6, 18, [], (fun _ v cs => ∃ b, v = .slice (some ⟨b, 0, none⟩) 1 1 ∧ cs = [box b 9 (([S (([115, 116, 121, 108, 101] : Str))]))])⟩, []), (⟨9, 21, [], (fun _ v cs => ∃ (x : Sl Str) (F : List Nat), v = x.v ∧ cs = [ow x F] ∧ x.l = [([115, 116, 121, 108, 101] : Str)] ++ p.styles.l)⟩, [(2, false), (4, true)]), (⟨10, 22, [], (fun _ v cs => v = S (joinS ([([115, 116, 121, 108, 101] : Str)] ++ p.styles.l) ([32] : Str)) ∧ cs = [])⟩, [(5, false)]), (⟨11, 23, [], (fun _ v cs => v = S ((((joinS ([([115, 99, 114, 105, 112, 116] : Str)] ++ p.scripts.l) ([32] : Str)) ++ ([59] : Str)) ++ (joinS ([([115, 116, 121, 108, 101] : Str)] ++ p.styles.l) ([32] : Str)))) ∧ cs = [])⟩, [(3, false), (6, false)]), (⟨12, 24, [], (fun _ v cs => v = S (((((joinS ([([115, 99, 114, 105, 112, 116] : Str)] ++ p.scripts.l) ([32] : Str)) ++ ([59] : Str)) ++ (joinS ([([115, 116, 121, 108, 101] : Str)] ++ p.styles.l) ([32] : Str))) ++ ([59] : Str))) ∧ cs = [])⟩, [(7, false)]), (⟨13, 25, [], (fun _ v cs => ∃ b, v = .slice (some ⟨b, 0, none⟩) 1 1 ∧ cs = [box b 9 (([S (([105, 109, 103] : Str))]))])⟩, []), (⟨16, 28, [], (fun _ v cs => ∃ (x : Sl Str) (F : List Nat), v = x.v ∧ cs = [ow x F] ∧ x.l = [([105, 109, 103] : Str)] ++ p.images.l)⟩, [(6, false), (9, true)]), (⟨17, 29, [], (fun _ v cs => v = S (joinS ([([105, 109, 103] : Str)] ++ p.images.l) ([32] : Str)) ∧ cs = [])⟩, [(10, false)])] [true, false, false, false, true, false, false, false, false, true, false, false] [(0, _), (1, _), (2, _), (4, _), (5, _), (6, _), (7, _), (8, _), (9, _), (10, _), (11, _), (13, _), (14, _), (19, _), (20, _), (26, _), (27, _)] ⟨by rfl, by rfl, by rfl, by rfl, by rfl, by rfl, by rfl, by rfl, by rfl, by rfl, by rfl, by rfl, by rfl, by rfl, by rfl, by rfl, by rfl, trivial⟩ Q0 Q6 Q6 Q6 Q6 Q6 Q6 Q6 Q6 (fun _ hs => hs.only Q2) hs (fuel := 2) ⟨⟨local_const, ?_⟩, ⟨local_const, ?_⟩, ⟨local_const, ?_⟩, ⟨local_const, ?_⟩, ⟨local_const, ?_⟩, ⟨local_const, ?_⟩, ⟨local_const, ?_⟩, ⟨local_const, ?_⟩, ⟨local_const, ?_⟩, ⟨local_const, ?_⟩, ⟨local_const, ?_⟩, ⟨local_const, ?_⟩, trivial⟩ ?_
   ·
    clear hs
    intro w R hs
    simp only [List.cons_append, List.nil_append] at hs
    exact Gives.rr' Q0 (Yr.buildSlice hs sll24 Q0 Q0 Q0 Q4 Q0) (fun _ _ ⟨b, hv, _, hs1⟩ => ⟨[box b 9 (([S (([115, 99, 114, 105, 112, 116] : Str))]))], ⟨b, hv, rfl⟩, hs1⟩)
   ·
    clear hs
    rintro _ _ ⟨b2, rfl, rfl⟩
    intro w R hs
    simp only [List.cons_append, List.nil_append] at hs
    replace hs := (Sat.boxow (l := ([([115, 99, 114, 105, 112, 116] : Str)] : List Str)) (hs.sel (D := [box b2 _ _]) Q2) rfl rfl (by simp [maxLen]) (ownL_mk_flat (by intro x hx; obtain rfl := List.mem_singleton.1 hx; show WfS _; unfold WfS; simp)))
    refine Gives.rr' Q0 (Yr.appendS (s := (⟨[([115, 99, 114, 105, 112, 116] : Str)], some ⟨b2, 0, none⟩, _⟩ : Sl Str)) (F := [b2]) (r := p.scripts) hs elt24 Q2 Q0 Q0 (Ph.old h_p.scripts hs) (by simp only [TPolicy.size, PPolicy.lg, strsz, lsz] at hb; simp; unfold maxLen; omega) (by simp only [TPolicy.size, PPolicy.lg, strsz, lsz] at hb; simp; omega)) ?_
    rintro _ w1 ⟨s4, F4, rfl, hl4, hs⟩
    exact ⟨[ow s4 F4], ⟨s4, F4, rfl, rfl, by first | exact hl4 | (simp only [List.append_nil] at hl4 ⊢; exact hl4)⟩, hs⟩
   ·
    clear hs
    rintro _ _ ⟨x5, F5, rfl, rfl, hx5⟩
    intro w R hs
    simp only [List.cons_append, List.nil_append] at hs
    refine Gives.c' Q0 (Yc.func Q0 fn53) (c_strings_Join _ _ _ (hs.okow (x := x5) (F := F5) Q1) (by simp only [hx5]; first | (simp only [TPolicy.size, PPolicy.lg, strsz, lsz] at hb; simp; omega) | (simp only [List.cons_append, List.nil_append]; refine Nat.le_trans (wordsText_len _ _) ?_; simp only [TPolicy.size, PPolicy.lg, List.length_cons, List.length_nil] at hb ⊢; omega)) (by simp only [hx5]; first | (simp only [TPolicy.size, PPolicy.lg, strsz, lsz] at hb; simp; omega) | (simp only [List.cons_append, List.nil_append]; refine Nat.le_trans (wordsText_len _ _) ?_; simp only [TPolicy.size, PPolicy.lg, List.length_cons, List.length_nil] at hb ⊢; omega))) ?_
    rintro _ w1 ⟨rfl, hb⟩
    exact ⟨_, rfl, [], ⟨(by first | rfl | (simp only [hx5])), rfl⟩, hs.ext hb⟩
   ·
    clear hs
    rintro _ _ ⟨rfl, rfl⟩
    intro w R hs
    simp only [List.cons_append, List.nil_append] at hs
    exact Gives.p' Q0 (Yl.cat Q0 Q0 (by have j1 := wordsText_len [115, 99, 114, 105, 112, 116] p.scripts.l; have j2 := wordsText_len [115, 116, 121, 108, 101] p.styles.l; have j3 := wordsText_len [105, 109, 103] p.images.l; simp only [wordsText, List.cons_append, List.nil_append, List.length_append, List.length_cons, List.length_nil, TPolicy.size, PPolicy.lg] at j1 j2 j3 hb ⊢; omega)) ⟨[], ⟨rfl, rfl⟩, hs⟩
   ·
    clear hs
    intro w R hs
    simp only [List.cons_append, List.nil_append] at hs
    exact Gives.rr' Q0 (Yr.buildSlice hs sll24 Q0 Q0 Q0 Q4 Q0) (fun _ _ ⟨b, hv, _, hs1⟩ => ⟨[box b 9 (([S (([115, 116, 121, 108, 101] : Str))]))], ⟨b, hv, rfl⟩, hs1⟩)
   ·
    clear hs
    rintro _ _ ⟨rfl, rfl⟩
    rintro _ _ ⟨b8, rfl, rfl⟩
    intro w R hs
    simp only [List.cons_append, List.nil_append] at hs
    replace hs := (Sat.boxow (l := ([([115, 116, 121, 108, 101] : Str)] : List Str)) (hs.sel (D := [box b8 _ _]) Q2) rfl rfl (by simp [maxLen]) (ownL_mk_flat (by intro x hx; obtain rfl := List.mem_singleton.1 hx; show WfS _; unfold WfS; simp)))
    refine Gives.rr' Q0 (Yr.appendS (s := (⟨[([115, 116, 121, 108, 101] : Str)], some ⟨b8, 0, none⟩, _⟩ : Sl Str)) (F := [b8]) (r := p.styles) hs elt24 Q2 Q0 Q0 (Ph.old h_p.styles hs) (by simp only [TPolicy.size, PPolicy.lg, strsz, lsz] at hb; simp; unfold maxLen; omega) (by simp only [TPolicy.size, PPolicy.lg, strsz, lsz] at hb; simp; omega)) ?_
    rintro _ w1 ⟨s10, F10, rfl, hl10, hs⟩
    exact ⟨[ow s10 F10], ⟨s10, F10, rfl, rfl, by first | exact hl10 | (simp only [List.append_nil] at hl10 ⊢; exact hl10)⟩, hs⟩
   ·
    clear hs
    rintro _ _ ⟨x11, F11, rfl, rfl, hx11⟩
    intro w R hs
    simp only [List.cons_append, List.nil_append] at hs
    refine Gives.c' Q0 (Yc.func Q0 fn53) (c_strings_Join _ _ _ (hs.okow (x := x11) (F := F11) Q1) (by simp only [hx11]; first | (simp only [TPolicy.size, PPolicy.lg, strsz, lsz] at hb; simp; omega) | (simp only [List.cons_append, List.nil_append]; refine Nat.le_trans (wordsText_len _ _) ?_; simp only [TPolicy.size, PPolicy.lg, List.length_cons, List.length_nil] at hb ⊢; omega)) (by simp only [hx11]; first | (simp only [TPolicy.size, PPolicy.lg, strsz, lsz] at hb; simp; omega) | (simp only [List.cons_append, List.nil_append]; refine Nat.le_trans (wordsText_len _ _) ?_; simp only [TPolicy.size, PPolicy.lg, List.length_cons, List.length_nil] at hb ⊢; omega))) ?_
    rintro _ w1 ⟨rfl, hb⟩
    exact ⟨_, rfl, [], ⟨(by first | rfl | (simp only [hx11])), rfl⟩, hs.ext hb⟩
   ·
    clear hs
    rintro _ _ ⟨rfl, rfl⟩
    rintro _ _ ⟨rfl, rfl⟩
    intro w R hs
    simp only [List.cons_append, List.nil_append] at hs
    exact Gives.p' Q0 (Yl.cat Q0 Q0 (by have j1 := wordsText_len [115, 99, 114, 105, 112, 116] p.scripts.l; have j2 := wordsText_len [115, 116, 121, 108, 101] p.styles.l; have j3 := wordsText_len [105, 109, 103] p.images.l; simp only [wordsText, List.cons_append, List.nil_append, List.length_append, List.length_cons, List.length_nil, TPolicy.size, PPolicy.lg] at j1 j2 j3 hb ⊢; omega)) ⟨[], ⟨rfl, rfl⟩, hs⟩
   ·
    clear hs
    rintro _ _ ⟨rfl, rfl⟩
    intro w R hs
    simp only [List.cons_append, List.nil_append] at hs
    exact Gives.p' Q0 (Yl.cat Q0 Q0 (by have j1 := wordsText_len [115, 99, 114, 105, 112, 116] p.scripts.l; have j2 := wordsText_len [115, 116, 121, 108, 101] p.styles.l; have j3 := wordsText_len [105, 109, 103] p.images.l; simp only [wordsText, List.cons_append, List.nil_append, List.length_append, List.length_cons, List.length_nil, TPolicy.size, PPolicy.lg] at j1 j2 j3 hb ⊢; omega)) ⟨[], ⟨rfl, rfl⟩, hs⟩
   ·
    clear hs
    intro w R hs
    simp only [List.cons_append, List.nil_append] at hs
    exact Gives.rr' Q0 (Yr.buildSlice hs sll24 Q0 Q0 Q0 Q4 Q0) (fun _ _ ⟨b, hv, _, hs1⟩ => ⟨[box b 9 (([S (([105, 109, 103] : Str))]))], ⟨b, hv, rfl⟩, hs1⟩)
   ·
    clear hs
    rintro _ _ ⟨rfl, rfl⟩
    rintro _ _ ⟨b15, rfl, rfl⟩
    intro w R hs
    simp only [List.cons_append, List.nil_append] at hs
    replace hs := (Sat.boxow (l := ([([105, 109, 103] : Str)] : List Str)) (hs.sel (D := [box b15 _ _]) Q2) rfl rfl (by simp [maxLen]) (ownL_mk_flat (by intro x hx; obtain rfl := List.mem_singleton.1 hx; show WfS _; unfold WfS; simp)))
    refine Gives.rr' Q0 (Yr.appendS (s := (⟨[([105, 109, 103] : Str)], some ⟨b15, 0, none⟩, _⟩ : Sl Str)) (F := [b15]) (r := p.images) hs elt24 Q2 Q0 Q0 (Ph.old h_p.images hs) (by simp only [TPolicy.size, PPolicy.lg, strsz, lsz] at hb; simp; unfold maxLen; omega) (by simp only [TPolicy.size, PPolicy.lg, strsz, lsz] at hb; simp; omega)) ?_
    rintro _ w1 ⟨s17, F17, rfl, hl17, hs⟩
    exact ⟨[ow s17 F17], ⟨s17, F17, rfl, rfl, by first | exact hl17 | (simp only [List.append_nil] at hl17 ⊢; exact hl17)⟩, hs⟩
   ·
    clear hs
    rintro _ _ ⟨x18, F18, rfl, rfl, hx18⟩
    intro w R hs
    simp only [List.cons_append, List.nil_append] at hs
    refine Gives.c' Q0 (Yc.func Q0 fn53) (c_strings_Join _ _ _ (hs.okow (x := x18) (F := F18) Q1) (by simp only [hx18]; first | (simp only [TPolicy.size, PPolicy.lg, strsz, lsz] at hb; simp; omega) | (simp only [List.cons_append, List.nil_append]; refine Nat.le_trans (wordsText_len _ _) ?_; simp only [TPolicy.size, PPolicy.lg, List.length_cons, List.length_nil] at hb ⊢; omega)) (by simp only [hx18]; first | (simp only [TPolicy.size, PPolicy.lg, strsz, lsz] at hb; simp; omega) | (simp only [List.cons_append, List.nil_append]; refine Nat.le_trans (wordsText_len _ _) ?_; simp only [TPolicy.size, PPolicy.lg, List.length_cons, List.length_nil] at hb ⊢; omega))) ?_
    rintro _ w1 ⟨rfl, hb⟩
    exact ⟨_, rfl, [], ⟨(by first | rfl | (simp only [hx18])), rfl⟩, hs.ext hb⟩
   clear hs
   rintro _ _ ⟨b2, rfl, rfl⟩
   rintro _ _ ⟨x5, F5, rfl, rfl, hx5⟩
   rintro _ _ ⟨rfl, rfl⟩
   rintro _ _ ⟨rfl, rfl⟩
   rintro _ _ ⟨b8, rfl, rfl⟩
   rintro _ _ ⟨x11, F11, rfl, rfl, hx11⟩
   rintro _ _ ⟨rfl, rfl⟩
   rintro _ _ ⟨rfl, rfl⟩
   rintro _ _ ⟨rfl, rfl⟩
   rintro _ _ ⟨b15, rfl, rfl⟩
   rintro _ _ ⟨x18, F18, rfl, rfl, hx18⟩
   rintro _ _ ⟨rfl, rfl⟩
   intro w hs
   simp only [List.cons_append, List.nil_append, cond_true, cond_false] at hs
   refine WA.p (i := 18) Q0 Q6 Q6 Q6 Q0 (hs.only Q2) (fun w hs => Yl.cat Q0 Q0 (by have j1 := wordsText_len [115, 99, 114, 105, 112, 116] p.scripts.l; have j2 := wordsText_len [115, 116, 121, 108, 101] p.styles.l; have j3 := wordsText_len [105, 109, 103] p.images.l; simp only [wordsText, List.cons_append, List.nil_append, List.length_append, List.length_cons, List.length_nil, TPolicy.size, PPolicy.lg] at j1 j2 j3 hb ⊢; omega)) ?_
   refine WA.p (i := 19) Q0 Q6 Q6 Q6 Q0 (hs.only Q2) (fun w hs => Yl.assign Q0) ?_
   refine WA.donen Q6 ?_
   refine WC.seq' ?_
   refine WC.seq ?_
   refine WL.p Q0 (Yl.fieldAddr fa26_4 Q0) ?_
   refine WL.p Q0 (Yl.loadB sca9 Q0 hs Q1 Q0) ?_
   refine WL.p Q0 (Yl.nes Q0 Q0) ?_
   refine WL.next ?_
   refine WC.condS Q0 (fun h3 => ?_) (fun h3 => ?_)
   ·
    replace h3 := not_eq_true h3
    replace h3 := of_decide_eq_false h3
    refine WC.region ?_
    refine Qm ?_
    refine WL.p Q0 (Yl.fieldAddr fa26_4 Q0) ?_
    refine WL.p Q0 (Yl.loadB sca9 Q0 hs Q1 Q0) ?_
    refine WL.p Q0 (Yl.cat Q0 Q0 (by have j1 := wordsText_len [115, 99, 114, 105, 112, 116] p.scripts.l; have j2 := wordsText_len [115, 116, 121, 108, 101] p.styles.l; have j3 := wordsText_len [105, 109, 103] p.images.l; simp only [wordsText, List.cons_append, List.nil_append, List.length_append, List.length_cons, List.length_nil, TPolicy.size, PPolicy.lg] at j1 j2 j3 hb ⊢; omega)) ?_
    refine WL.p Q0 (Yl.cat Q0 Q0 (by have j1 := wordsText_len [115, 99, 114, 105, 112, 116] p.scripts.l; have j2 := wordsText_len [115, 116, 121, 108, 101] p.styles.l; have j3 := wordsText_len [105, 109, 103] p.images.l; simp only [wordsText, List.cons_append, List.nil_append, List.length_append, List.length_cons, List.length_nil, TPolicy.size, PPolicy.lg] at j1 j2 j3 hb ⊢; omega)) ?_
    refine Qa ?_
    refine WL.nil ?_
    refine At.then_ ?_
    refine WC.seq ?_
    refine Qm ?_
    refine Qa ?_
    refine WL.next ?_
    refine WC.ret ?_
    refine fin1' rfl Q0 ?_
    refine RetP.mk hs ?_
    first
     | (simp [fmtPolicy, h1]; done)
     | (simp [fmtPolicy, h2]; done)
     | (simp [fmtPolicy, h1, h2, h3, wordsText]; done)
   ·
    replace h3 := not_eq_false h3
    replace h3 := of_decide_eq_true h3
    refine WC.skipn ?_
    refine WC.seq ?_
    refine Qm ?_
    refine Qa ?_
    refine WL.next ?_
    refine WC.ret ?_
    refine fin1' rfl Q0 ?_
    refine RetP.mk hs ?_
    first
     | (simp [fmtPolicy, h1]; done)
     | (simp [fmtPolicy, h2]; done)
     | (simp [fmtPolicy, h1, h2, h3, wordsText]; done)

theorem c_strings_Split (s : Str) (sep : Str) (w : World)  (h1 : s.length ≤ 2097152) (h2 : sep = [sep.headD 0]) (hm_ : ∃ m, w.cell? ⟨0, 0, none⟩ = some (.int .i64 m)) : Calls Tryd.prog 50 [S s, S sep].toArray w (Ret w (fun v w' => ∃ x : Sl Str, v = x.v ∧ x.l = splitC (sep.headD 0) s ∧ Fresh w x w')) := by
 rw [h2]; exact split_calls Tryd.strings_Split s (sep.headD 0) w h1 hm_

theorem c_strings_TrimPrefix (s : Str) (prefix_ : Str) (w : World)   : Calls Tryd.prog 51 [S s, S prefix_].toArray w (RetP w (S (if prefix_.isPrefixOf s then s.drop prefix_.length else s))) := by
 exact trim_calls Tryd.strings_TrimPrefix s prefix_ w

theorem c_impl_copyPolicy (p : PPolicy) (w : World) (h_p : Ph.ok w p) (hb : p.lg.size ≤ 1048576) : Calls Tryd.prog 52 [.agg #[Bo p.set, Sl.v p.scripts, Sl.v p.styles, Sl.v p.images, S p.nonce]].toArray w (Ret w (fun v w' => ∃ x : PPolicy, v = .agg (Ph.enc x).toArray ∧ x.lg = p.lg ∧ Fresh w x w')) := by
 refine enterN 19 Tryd.func52 rfl rfl rfl ?_
 have hs := Sat.start w
 refine WC.seq ?_
 refine WL.r Q0 (Yr.box hs Q0 Q0) ?_
 clear hs; rintro _ w ⟨b1, rfl, hb, hs⟩; clear hb
 refine WL.r Q0 (Yr.alloc hs zt26) ?_
 clear hs; rintro _ w ⟨b2, rfl, hb, hs⟩; clear hb
 refine WL.next ?_
 refine WC.seq ?_
 refine WL.r Q0 (Yr.buildSlice hs sll24 Q0 Q0 Q0 Q4 Q0) ?_
 clear hs; rintro _ w ⟨b3, rfl, hb, hs⟩; clear hb
 refine WL.p Q0 (Yl.fieldAddr fa26_1 Q0) ?_
 refine WL.p Q0 (Yl.loadB sca24 Q0 hs Q1 Q0) ?_
 replace hs := (Sat.boxow (l := ([] : List Str)) (hs.sel (D := [box b3 _ _]) Q2) rfl rfl (by simp [maxLen]) (ownL_mk_flat (by simp)))
 refine WL.r Q0 (Yr.appendS (s := (⟨[], some ⟨b3, 0, none⟩, _⟩ : Sl Str)) (F := [b3]) (r := p.scripts) hs elt24 Q2 Q0 Q0 (Ph.old h_p.scripts hs) (by have h1 := h_p.scripts.lt; have h2 := h_p.styles.lt; have h3 := h_p.images.lt; simp; unfold maxLen; omega) (by simp only [TPolicy.size, strsz, lsz] at hb; simp; omega)) ?_
 clear hs; rintro _ w ⟨s4, F4, rfl, hl4, hs⟩
 refine WL.p Q0 (Yl.fieldAddr fa26_1 Q0) ?_
 refine WL.s (Yr.storeB hs Q0 Q0 Q0 Q5 Q3 Q0 (by exact szf24)) ?_
 clear hs; rintro _ w hs
 refine WL.next ?_
 refine WC.seq ?_
 refine WL.r Q0 (Yr.buildSlice hs sll24 Q0 Q0 Q0 Q4 Q0) ?_
 clear hs; rintro _ w ⟨b5, rfl, hb, hs⟩; clear hb
 refine WL.p Q0 (Yl.fieldAddr fa26_2 Q0) ?_
 refine WL.p Q0 (Yl.loadB sca24 Q0 hs Q1 Q0) ?_
 replace hs := (Sat.boxow (l := ([] : List Str)) (hs.sel (D := [box b5 _ _]) Q2) rfl rfl (by simp [maxLen]) (ownL_mk_flat (by simp)))
 refine WL.r Q0 (Yr.appendS (s := (⟨[], some ⟨b5, 0, none⟩, _⟩ : Sl Str)) (F := [b5]) (r := p.styles) hs elt24 Q2 Q0 Q0 (Ph.old h_p.styles hs) (by have h1 := h_p.scripts.lt; have h2 := h_p.styles.lt; have h3 := h_p.images.lt; simp; unfold maxLen; omega) (by simp only [TPolicy.size, strsz, lsz] at hb; simp; omega)) ?_
 clear hs; rintro _ w ⟨s6, F6, rfl, hl6, hs⟩
 refine WL.p Q0 (Yl.fieldAddr fa26_2 Q0) ?_
 refine WL.s (Yr.storeB hs Q0 Q0 Q0 Q5 Q3 Q0 (by exact szf24)) ?_
 clear hs; rintro _ w hs
 refine WL.next ?_
 refine WC.seq ?_
 refine WL.r Q0 (Yr.buildSlice hs sll24 Q0 Q0 Q0 Q4 Q0) ?_
 clear hs; rintro _ w ⟨b7, rfl, hb, hs⟩; clear hb
 refine WL.p Q0 (Yl.fieldAddr fa26_3 Q0) ?_
 refine WL.p Q0 (Yl.loadB sca24 Q0 hs Q1 Q0) ?_
 replace hs := (Sat.boxow (l := ([] : List Str)) (hs.sel (D := [box b7 _ _]) Q2) rfl rfl (by simp [maxLen]) (ownL_mk_flat (by simp)))
 refine WL.r Q0 (Yr.appendS (s := (⟨[], some ⟨b7, 0, none⟩, _⟩ : Sl Str)) (F := [b7]) (r := p.images) hs elt24 Q2 Q0 Q0 (Ph.old h_p.images hs) (by have h1 := h_p.scripts.lt; have h2 := h_p.styles.lt; have h3 := h_p.images.lt; simp; unfold maxLen; omega) (by simp only [TPolicy.size, strsz, lsz] at hb; simp; omega)) ?_
 clear hs; rintro _ w ⟨s8, F8, rfl, hl8, hs⟩
 refine WL.p Q0 (Yl.fieldAddr fa26_3 Q0) ?_
 refine WL.s (Yr.storeB hs Q0 Q0 Q0 Q5 Q3 Q0 (by exact szf24)) ?_
 clear hs; rintro _ w hs
 refine WL.next ?_
 refine WC.seq ?_
 refine WL.p Q0 (Yl.loadAB agg26 Q0 hs Q1 Q0 Q0) ?_
 refine WL.s (Yr.storeB hs Q0 Q0 Q0 Q5 Q3 Q0 (by exact szf26)) ?_
 clear hs; rintro _ w hs
 refine WL.next ?_
 refine WC.ret ?_
 refine fin1c rfl agg26 Q0 hs Q1 Q0 ?_
 refine Ret.mk hs ?_
 refine ⟨⟨_, s4, s6, s8, _⟩, rfl, ?_, ?_⟩
 · simp_all
 · exact (PPolicy.join _ (hs.only (D := [ow s4 F4, ow s6 F6, ow s8 F8]) Q2) (by first | exact Ph.old h_p.set hs | trivial | assumption | exact Nat.zero_le _) (by first | exact Ph.old h_p.nonce hs | trivial | assumption | exact Nat.zero_le _)).fresh List.mem_cons_self

theorem c_impl_ParsePolicy (s : Str) (w : World)  (hb : s.length ≤ 1048576) (hm_ : ∃ m, w.cell? ⟨0, 0, none⟩ = some (.int .i64 m)) : Calls Tryd.prog 9 [S s].toArray w (Ret w (fun v w' => ∃ x : PPolicy, v = .tuple #[.agg (Ph.enc x).toArray, Bo (policyIs s)] ∧ x.lg = policyOf s ∧ Fresh w x w')) := by
 refine enterN 52 Tryd.func9 rfl rfl rfl ?_
 have hs := Sat.start w
 refine WC.seq ?_
 refine WL.r Q0 (Yr.alloc hs zt26) ?_
 clear hs; rintro _ w ⟨b1, rfl, hb, hs⟩; clear hb
 refine Qa ?_
 refine WL.next ?_
 refine WC.seq' ?_
 refine WC.seq ?_
 refine Qm ?_
 refine WL.p Q0 (Yl.eqs Q0 Q0) ?_
 refine WL.next ?_
 refine WC.condS Q0 (fun h1 => ?_) (fun h1 => ?_)
 ·
  replace h1 := of_decide_eq_true h1
  refine WC.seq ?_
  refine WL.p Q0 (Yl.build bt26 Q0 Q4) ?_
  refine WL.s (Yr.storeB hs Q0 Q0 Q0 Q5 Q3 Q0 (by exact szf26)) ?_
  clear hs; rintro _ w hs
  refine Qa ?_
  refine WL.next ?_
  refine WC.ret ?_
  refine At.thenret ?_
  refine fin2c rfl agg26 Q0 Q0 hs Q1 Q0 ?_
  refine Ret.mk hs ?_
  have hb9 : policyIs s = true := policyIs_nil h1
  exact ⟨⟨false, ⟨[], none, 0⟩, ⟨[], none, 0⟩, ⟨[], none, 0⟩, []⟩, by rw [hb9]; rfl, (policyOf_no (.inl h1)).symm, ⟨⟨[], PPolicy.zown _, .nil, fun b h => by cases h⟩⟩⟩
 ·
  replace h1 := of_decide_eq_false h1
  refine WC.skipn ?_
  refine WC.seq ?_
  refine Qm ?_
  refine WL.call hs Q0 (Yc.func Q0 fn50) (c_strings_Split _ _ _ Q10 Q0 (by first | assumption | exact Sat.cellm hs (by assumption))) ?_
  have hs0 := hs; clear hs; intro v w hb hR hs; clear hs
  obtain ⟨x2, rfl, hx2, hf2⟩ := hR
  obtain ⟨F2, hs⟩ := hf2.sat hs0 hb; clear hs0 hf2
  have hle2 := Sl.Ok.le (hs.okow (x := x2) (F := F2) Q1)
  refine Qa ?_
  refine WL.next ?_
  refine WC.seq' ?_
  refine WC.seq ?_
  refine Qm ?_
  refine WL.p Q0 (Yl.len_sl slu24 Q0) ?_
  refine WL.p Q0 (Yl.lss Q0 Q0) ?_
  refine WL.next ?_
  refine WC.condS Q0 (fun h2 => ?_) (fun h2 => ?_)
  ·
   replace h2 := of_decide_eq_true h2
   refine WC.seq ?_
   refine WL.p Q0 (Yl.build bt26 Q0 Q4) ?_
   refine WL.s (Yr.storeB hs Q0 Q0 Q0 Q5 Q3 Q0 (by exact szf26)) ?_
   clear hs; rintro _ w hs
   refine Qa ?_
   refine WL.next ?_
   refine WC.ret ?_
   refine At.thenret ?_
   refine fin2c rfl agg26 Q0 Q0 hs Q1 Q0 ?_
   refine Ret.mk hs ?_
   have hb9 : policyIs s = false := policyIs_short h1 (by rw [← show x2.l = splitC 59 s from hx2]; omega)
   exact ⟨⟨false, ⟨[], none, 0⟩, ⟨[], none, 0⟩, ⟨[], none, 0⟩, []⟩, by rw [hb9]; rfl, (policyOf_no (.inr hb9)).symm, ⟨⟨[], PPolicy.zown _, .nil, fun b h => by cases h⟩⟩⟩
  ·
   replace h2 := of_decide_eq_false h2
   have h39 := getD_len (s := s) (i := 3)
   rw [← show x2.l = splitC 59 s from hx2] at h39
   refine WC.skipn ?_
   refine WC.seq ?_
   refine WL.p Q0 (Yl.buildArr arr77 szf24 zt77) ?_
   refine WL.r Q0 (Yr.alloc hs zt77) ?_
   clear hs; rintro _ w ⟨b3, rfl, hb, hs⟩; clear hb
   refine WL.s (Yr.storeB hs Q0 Q0 Q0 Q5 Q3 Q0 (by exact szf77)) ?_
   clear hs; rintro _ w hs
   refine WL.next ?_
   refine WC.seq' ?_
   refine WC.seq ?_
   refine Qm ?_
   refine WL.next ?_
   refine WC.block ?_
   refine WC.loopN 4 ?_
   refine WR.succ ?_
   refine WC.seq ?_
   refine WL.p Q0 (Yl.lss Q0 Q0) ?_
   refine WL.next ?_
   refine WC.seq' ?_
   refine WC.condT Q0 ?_
   refine WC.skipn ?_
   refine WC.seq' ?_
   refine WC.block ?_
   refine WC.seq ?_
   refine Qm ?_
   refine Qa ?_
   refine WL.next ?_
   refine WC.region ?_
   refine Qm ?_
   refine Qm ?_
   refine Qm ?_
   refine WL.p Q0 (Yl.indexAddr (k := 0) slt24 Q0 Q0 (hs.okow (x := x2) (F := F2) Q1) Q0 ((getD_some (i := 0) (z := ([] : Str)) Q7))) ?_
   refine WL.p Q0 (Yl.loadC0 sca9 Q0 (Sl.Ok.at_ (hs.okow (x := x2) (F := F2) Q1) ((getD_some (i := 0) (z := ([] : Str)) Q7))).2 Q0) ?_
   refine WL.call hs Q0 (Yc.func Q0 fn50) (c_strings_Split _ _ _ (by first | (have := getD_len (s := s) (i := 0); rw [← show x2.l = splitC 59 s from hx2] at this; omega) | (have := getD_len (s := s) (i := 1); rw [← show x2.l = splitC 59 s from hx2] at this; omega) | (have := getD_len (s := s) (i := 2); rw [← show x2.l = splitC 59 s from hx2] at this; omega) | (have := getD_len (s := s) (i := 3); rw [← show x2.l = splitC 59 s from hx2] at this; omega)) Q0 (by first | assumption | exact Sat.cellm hs (by assumption))) ?_
   have hs0 := hs; clear hs; intro v w hb hR hs; clear hs
   obtain ⟨x4, rfl, hx4, hf4⟩ := hR
   obtain ⟨F4, hs⟩ := hf4.sat hs0 hb; clear hs0 hf4
   have hle4 := Sl.Ok.le (hs.okow (x := x4) (F := F4) Q1)
   refine WL.p Q0 (Yl.slice_sl (s := x4) (l := 1) (h := x4.l.length) slt24 Q0 hle4 (by exact ⟨_, by rfl⟩) (by exact rfl) (by rw [hx4]; exact List.length_pos_iff.2 (splitC_ne _ _)) (by exact Nat.le_refl _)) ?_
   refine WL.p Q0 (Yl.indexArr (i := 0) arr77 szf24 Q0 Q0 Q0 (by decide)) ?_
   refine WL.s (Yr.storeB hs Q0 Q0 Q0 Q5 Q3 Q0 (by exact szf24)) ?_
   clear hs; rintro _ w hs
   refine WL.nil ?_
   refine At.blocknormal ?_
   refine At.then_ ?_
   refine WC.region ?_
   refine WL.p Q0 (Yl.add Q0 Q0 Q7) ?_
   refine Qm ?_
   refine WL.nil ?_
   refine At.roundN ?_
   refine WR.succ ?_
   refine WC.seq ?_
   refine WL.p Q0 (Yl.lss Q0 Q0) ?_
   refine WL.next ?_
   refine WC.seq' ?_
   refine WC.condT Q0 ?_
   refine WC.skipn ?_
   refine WC.seq' ?_
   refine WC.block ?_
   refine WC.seq ?_
   refine Qm ?_
   refine Qa ?_
   refine WL.next ?_
   refine WC.region ?_
   refine Qm ?_
   refine Qm ?_
   refine Qm ?_
   refine WL.p Q0 (Yl.indexAddr (k := 1) slt24 Q0 Q0 (hs.okow (x := x2) (F := F2) Q1) Q0 ((getD_some (i := 1) (z := ([] : Str)) Q7))) ?_
   refine WL.p Q0 (Yl.loadC0 sca9 Q0 (Sl.Ok.at_ (hs.okow (x := x2) (F := F2) Q1) ((getD_some (i := 1) (z := ([] : Str)) Q7))).2 Q0) ?_
   refine WL.call hs Q0 (Yc.func Q0 fn50) (c_strings_Split _ _ _ (by first | (have := getD_len (s := s) (i := 0); rw [← show x2.l = splitC 59 s from hx2] at this; omega) | (have := getD_len (s := s) (i := 1); rw [← show x2.l = splitC 59 s from hx2] at this; omega) | (have := getD_len (s := s) (i := 2); rw [← show x2.l = splitC 59 s from hx2] at this; omega) | (have := getD_len (s := s) (i := 3); rw [← show x2.l = splitC 59 s from hx2] at this; omega)) Q0 (by first | assumption | exact Sat.cellm hs (by assumption))) ?_
   have hs0 := hs; clear hs; intro v w hb hR hs; clear hs
   obtain ⟨x5, rfl, hx5, hf5⟩ := hR
   obtain ⟨F5, hs⟩ := hf5.sat hs0 hb; clear hs0 hf5
   have hle5 := Sl.Ok.le (hs.okow (x := x5) (F := F5) Q1)
   refine WL.p Q0 (Yl.slice_sl (s := x5) (l := 1) (h := x5.l.length) slt24 Q0 hle5 (by exact ⟨_, by rfl⟩) (by exact rfl) (by rw [hx5]; exact List.length_pos_iff.2 (splitC_ne _ _)) (by exact Nat.le_refl _)) ?_
   refine WL.p Q0 (Yl.indexArr (i := 1) arr77 szf24 Q0 Q0 Q0 (by decide)) ?_
   refine WL.s (Yr.storeB hs Q0 Q0 Q0 Q5 Q3 Q0 (by exact szf24)) ?_
   clear hs; rintro _ w hs
   refine WL.nil ?_
   refine At.blocknormal ?_
   refine At.then_ ?_
   refine WC.region ?_
   refine WL.p Q0 (Yl.add Q0 Q0 Q7) ?_
   refine Qm ?_
   refine WL.nil ?_
   refine At.roundN ?_
   refine WR.succ ?_
   refine WC.seq ?_
   refine WL.p Q0 (Yl.lss Q0 Q0) ?_
   refine WL.next ?_
   refine WC.seq' ?_
   refine WC.condT Q0 ?_
   refine WC.skipn ?_
   refine WC.seq' ?_
   refine WC.block ?_
   refine WC.seq ?_
   refine Qm ?_
   refine Qa ?_
   refine WL.next ?_
   refine WC.region ?_
   refine Qm ?_
   refine Qm ?_
   refine Qm ?_
   refine WL.p Q0 (Yl.indexAddr (k := 2) slt24 Q0 Q0 (hs.okow (x := x2) (F := F2) Q1) Q0 ((getD_some (i := 2) (z := ([] : Str)) Q7))) ?_
   refine WL.p Q0 (Yl.loadC0 sca9 Q0 (Sl.Ok.at_ (hs.okow (x := x2) (F := F2) Q1) ((getD_some (i := 2) (z := ([] : Str)) Q7))).2 Q0) ?_
   refine WL.call hs Q0 (Yc.func Q0 fn50) (c_strings_Split _ _ _ (by first | (have := getD_len (s := s) (i := 0); rw [← show x2.l = splitC 59 s from hx2] at this; omega) | (have := getD_len (s := s) (i := 1); rw [← show x2.l = splitC 59 s from hx2] at this; omega) | (have := getD_len (s := s) (i := 2); rw [← show x2.l = splitC 59 s from hx2] at this; omega) | (have := getD_len (s := s) (i := 3); rw [← show x2.l = splitC 59 s from hx2] at this; omega)) Q0 (by first | assumption | exact Sat.cellm hs (by assumption))) ?_
   have hs0 := hs; clear hs; intro v w hb hR hs; clear hs
   obtain ⟨x6, rfl, hx6, hf6⟩ := hR
   obtain ⟨F6, hs⟩ := hf6.sat hs0 hb; clear hs0 hf6
   have hle6 := Sl.Ok.le (hs.okow (x := x6) (F := F6) Q1)
   refine WL.p Q0 (Yl.slice_sl (s := x6) (l := 1) (h := x6.l.length) slt24 Q0 hle6 (by exact ⟨_, by rfl⟩) (by exact rfl) (by rw [hx6]; exact List.length_pos_iff.2 (splitC_ne _ _)) (by exact Nat.le_refl _)) ?_
   refine WL.p Q0 (Yl.indexArr (i := 2) arr77 szf24 Q0 Q0 Q0 (by decide)) ?_
   refine WL.s (Yr.storeB hs Q0 Q0 Q0 Q5 Q3 Q0 (by exact szf24)) ?_
   clear hs; rintro _ w hs
   refine WL.nil ?_
   refine At.blocknormal ?_
   refine At.then_ ?_
   refine WC.region ?_
   refine WL.p Q0 (Yl.add Q0 Q0 Q7) ?_
   refine Qm ?_
   refine WL.nil ?_
   refine At.roundN ?_
   refine WR.succ ?_
   refine WC.seq ?_
   refine WL.p Q0 (Yl.lss Q0 Q0) ?_
   refine WL.next ?_
   refine WC.seq' ?_
   refine WC.condF Q0 ?_
   refine WC.exit ?_
   refine At.thenexit ?_
   refine At.thenexit ?_
   refine At.blockexit ?_
   refine At.then_ ?_
   refine WC.seq ?_
   refine WL.p Q0 (Yl.indexArr (i := 0) arr77 szf24 Q0 Q0 Q0 (by decide)) ?_
   refine WL.p Q0 (Yl.loadB sca24 Q0 hs Q1 Q0) ?_
   refine WL.p Q0 (Yl.indexArr (i := 1) arr77 szf24 Q0 Q0 Q0 (by decide)) ?_
   refine WL.p Q0 (Yl.loadB sca24 Q0 hs Q1 Q0) ?_
   refine WL.p Q0 (Yl.indexArr (i := 2) arr77 szf24 Q0 Q0 Q0 (by decide)) ?_
   refine WL.p Q0 (Yl.loadB sca24 Q0 hs Q1 Q0) ?_
   refine WL.p Q0 (Yl.build bt26 Q0 Q4) ?_
   refine WL.r Q0 (Yr.alloc hs zt26) ?_
   clear hs; rintro _ w ⟨b7, rfl, hb, hs⟩; clear hb
   refine WL.s (Yr.storeB hs Q0 Q0 Q0 Q5 Q3 Q0 (by exact szf26)) ?_
   clear hs; rintro _ w hs
   refine WL.next ?_
   refine WC.seq' ?_
   refine WC.seq ?_
   refine Qm ?_
   refine WL.p Q0 (Yl.len_sl slu24 Q0) ?_
   refine WL.p Q0 (Yl.gtr Q0 Q0) ?_
   refine WL.next ?_
   refine WC.condS Q0 (fun h3 => ?_) (fun h3 => ?_)
   ·
    replace h3 := of_decide_eq_true h3
    refine WC.region ?_
    refine Qm ?_
    refine WL.p Q0 (Yl.indexAddr (k := 3) slt24 Q0 Q0 (hs.okow (x := x2) (F := F2) Q1) Q0 ((getD_some (i := 3) (z := ([] : Str)) Q7))) ?_
    refine WL.p Q0 (Yl.loadC0 sca9 Q0 (Sl.Ok.at_ (hs.okow (x := x2) (F := F2) Q1) ((getD_some (i := 3) (z := ([] : Str)) Q7))).2 Q0) ?_
    refine WL.callp hs Q0 (Yc.func Q0 fn51) (c_strings_TrimPrefix _ _ _) ?_
    clear hs; intro w hs
    refine WL.p Q0 (Yl.fieldAddr fa26_4 Q0) ?_
    refine WL.s (Yr.storeB hs Q0 Q0 Q0 Q5 Q3 Q0 (by exact szf9)) ?_
    clear hs; rintro _ w hs
    refine WL.nil ?_
    refine At.then_ ?_
    refine WC.seq' ?_
    refine WC.seq ?_
    refine WL.p Q0 (Yl.loadAB agg26 Q0 hs Q1 Q0 Q0) ?_
    have hpl9 : PPolicy.lg (⟨true, (x4.cut 1 x4.l.length), (x5.cut 1 x5.l.length), (x6.cut 1 x6.l.length), (nonceI (x2.l.getD 3 []))⟩ : PPolicy) = polI s := by
     have e2 : x2.l = splitC 59 s := hx2
     have g0 : x4.l = splitC 32 ((splitC 59 s).getD 0 []) := by rw [← e2]; exact hx4
     have g1 : x5.l = splitC 32 ((splitC 59 s).getD 1 []) := by rw [← e2]; exact hx5
     have g2 : x6.l = splitC 32 ((splitC 59 s).getD 2 []) := by rw [← e2]; exact hx6
     have c0 : (x4.cut 1 x4.l.length).l = (splitC 32 ((splitC 59 s).getD 0 [])).tail := by rw [Sl.cut_full, g0, List.drop_one]
     have c1 : (x5.cut 1 x5.l.length).l = (splitC 32 ((splitC 59 s).getD 1 [])).tail := by rw [Sl.cut_full, g1, List.drop_one]
     have c2 : (x6.cut 1 x6.l.length).l = (splitC 32 ((splitC 59 s).getD 2 [])).tail := by rw [Sl.cut_full, g2, List.drop_one]
     simp only [PPolicy.lg, polI, polOf, c0, c1, c2, TPolicy.mk.injEq, true_and]
     rw [← e2]
     first
      | (rw [if_neg (show ¬ 3 < x2.l.length from fun h => by omega)]; done)
      | (rw [if_pos (show 3 < x2.l.length from Int.ofNat_lt.1 Q7)]; done)
      | (rw [if_pos (show 3 < x2.l.length from Int.ofNat_lt.1 Q7)]
         simp only [nonceS, nonceI]
         first
           | (rfl; done)
           | (rw [if_neg Q7]; done)
           | (rw [if_pos Q7, List.take_of_length_le (by simp)]; done)
           | (rw [if_pos Q7]; done))
    refine WL.callp hs Q0 (Yc.func Q0 fn10) (c_impl_FormatPolicy (⟨true, (x4.cut 1 x4.l.length), (x5.cut 1 x5.l.length), (x6.cut 1 x6.l.length), (nonceI (x2.l.getD 3 []))⟩ : PPolicy) _ ⟨trivial, (Sl.Ok.cut (hs.okow (x := x4) (F := F4) Q1) (by rw [hx4]; exact List.length_pos_iff.2 (splitC_ne _ _)) (by exact Nat.le_refl _)), (Sl.Ok.cut (hs.okow (x := x5) (F := F5) Q1) (by rw [hx5]; exact List.length_pos_iff.2 (splitC_ne _ _)) (by exact Nat.le_refl _)), (Sl.Ok.cut (hs.okow (x := x6) (F := F6) Q1) (by rw [hx6]; exact List.length_pos_iff.2 (splitC_ne _ _)) (by exact Nat.le_refl _)), (show WfS _ from Nat.le_trans (nonceI_len _) Q7)⟩ (by rw [hpl9]; have := polI_size (s := s) (by rw [← show x2.l = splitC 59 s from hx2]; omega); omega)) ?_
    clear hs; intro w hs
    refine Qm ?_
    refine WL.p Q0 (Yl.nes Q0 Q0) ?_
    refine WL.next ?_
    refine WC.condS Q0 (fun h4 => ?_) (fun h4 => ?_)
    ·
     replace h4 := not_eq_true h4
     replace h4 := of_decide_eq_false h4
     refine WC.seq ?_
     refine WL.p Q0 (Yl.build bt26 Q0 Q4) ?_
     refine WL.s (Yr.storeB hs Q0 Q0 Q0 Q5 Q3 Q0 (by exact szf26)) ?_
     clear hs; rintro _ w hs
     refine Qa ?_
     refine WL.next ?_
     refine WC.ret ?_
     refine At.thenret ?_
     refine fin2c rfl agg26 Q0 Q0 hs Q1 Q0 ?_
     refine Ret.mk hs ?_
     rw [hpl9] at h4
     have hb9 : policyIs s = false := policyIs_badI h1 h4
     exact ⟨⟨false, ⟨[], none, 0⟩, ⟨[], none, 0⟩, ⟨[], none, 0⟩, []⟩, by rw [hb9]; rfl, (policyOf_no (.inr hb9)).symm, ⟨⟨[], PPolicy.zown _, .nil, fun b h => by cases h⟩⟩⟩
    ·
     replace h4 := not_eq_false h4
     replace h4 := of_decide_eq_true h4
     refine WC.skipn ?_
     refine WC.seq ?_
     refine WL.p Q0 (Yl.loadAB agg26 Q0 hs Q1 Q0 Q0) ?_
     refine WL.call hs Q0 (Yc.func Q0 fn52) (c_impl_copyPolicy (⟨true, (x4.cut 1 x4.l.length), (x5.cut 1 x5.l.length), (x6.cut 1 x6.l.length), (nonceI (x2.l.getD 3 []))⟩ : PPolicy) _ ⟨trivial, (Sl.Ok.cut (hs.okow (x := x4) (F := F4) Q1) (by rw [hx4]; exact List.length_pos_iff.2 (splitC_ne _ _)) (by exact Nat.le_refl _)), (Sl.Ok.cut (hs.okow (x := x5) (F := F5) Q1) (by rw [hx5]; exact List.length_pos_iff.2 (splitC_ne _ _)) (by exact Nat.le_refl _)), (Sl.Ok.cut (hs.okow (x := x6) (F := F6) Q1) (by rw [hx6]; exact List.length_pos_iff.2 (splitC_ne _ _)) (by exact Nat.le_refl _)), (show WfS _ from Nat.le_trans (nonceI_len _) Q7)⟩ (by rw [hpl9]; have := polI_size (s := s) (by rw [← show x2.l = splitC 59 s from hx2]; omega); omega)) ?_
     have hs0 := hs; clear hs; intro v w hb hR hs; clear hs
     obtain ⟨x8, rfl, hx8, hf8⟩ := hR
     obtain ⟨F8, hs⟩ := hf8.sat hs0 hb; clear hs0 hf8
     refine WL.s (Yr.storeB hs Q0 Q0 Q0 Q5 Q3 Q0 (by exact szf26)) ?_
     clear hs; rintro _ w hs
     refine Qa ?_
     refine WL.next ?_
     refine WC.ret ?_
     refine fin2c rfl agg26 Q0 Q0 hs Q1 Q0 ?_
     refine Ret.mk hs ?_
     rw [hpl9] at h4
     have hq9 : x2.l = splitC 59 s := hx2
     have h49 : 3 ≤ (splitC 59 s).length := by rw [← hq9]; omega
     have hb9 : policyIs s = true := policyIs_goodI h1 h4 h49
     exact ⟨x8, by rw [hb9]; try rfl, hx8.trans (hpl9.trans (policyOf_goodI h1 hb9 h4).symm), hs.fresh Q1⟩
   ·
    replace h3 := of_decide_eq_false h3
    refine WC.skipn ?_
    refine WC.seq' ?_
    refine WC.seq ?_
    refine WL.p Q0 (Yl.loadAB agg26 Q0 hs Q1 Q0 Q0) ?_
    have hpl9 : PPolicy.lg (⟨true, (x4.cut 1 x4.l.length), (x5.cut 1 x5.l.length), (x6.cut 1 x6.l.length), ([] : Str)⟩ : PPolicy) = polI s := by
     have e2 : x2.l = splitC 59 s := hx2
     have g0 : x4.l = splitC 32 ((splitC 59 s).getD 0 []) := by rw [← e2]; exact hx4
     have g1 : x5.l = splitC 32 ((splitC 59 s).getD 1 []) := by rw [← e2]; exact hx5
     have g2 : x6.l = splitC 32 ((splitC 59 s).getD 2 []) := by rw [← e2]; exact hx6
     have c0 : (x4.cut 1 x4.l.length).l = (splitC 32 ((splitC 59 s).getD 0 [])).tail := by rw [Sl.cut_full, g0, List.drop_one]
     have c1 : (x5.cut 1 x5.l.length).l = (splitC 32 ((splitC 59 s).getD 1 [])).tail := by rw [Sl.cut_full, g1, List.drop_one]
     have c2 : (x6.cut 1 x6.l.length).l = (splitC 32 ((splitC 59 s).getD 2 [])).tail := by rw [Sl.cut_full, g2, List.drop_one]
     simp only [PPolicy.lg, polI, polOf, c0, c1, c2, TPolicy.mk.injEq, true_and]
     rw [← e2]
     first
      | (rw [if_neg (show ¬ 3 < x2.l.length from fun h => by omega)]; done)
      | (rw [if_pos (show 3 < x2.l.length from Int.ofNat_lt.1 Q7)]; done)
      | (rw [if_pos (show 3 < x2.l.length from Int.ofNat_lt.1 Q7)]
         simp only [nonceS, nonceI]
         first
           | (rfl; done)
           | (rw [if_neg Q7]; done)
           | (rw [if_pos Q7, List.take_of_length_le (by simp)]; done)
           | (rw [if_pos Q7]; done))
    refine WL.callp hs Q0 (Yc.func Q0 fn10) (c_impl_FormatPolicy (⟨true, (x4.cut 1 x4.l.length), (x5.cut 1 x5.l.length), (x6.cut 1 x6.l.length), ([] : Str)⟩ : PPolicy) _ ⟨trivial, (Sl.Ok.cut (hs.okow (x := x4) (F := F4) Q1) (by rw [hx4]; exact List.length_pos_iff.2 (splitC_ne _ _)) (by exact Nat.le_refl _)), (Sl.Ok.cut (hs.okow (x := x5) (F := F5) Q1) (by rw [hx5]; exact List.length_pos_iff.2 (splitC_ne _ _)) (by exact Nat.le_refl _)), (Sl.Ok.cut (hs.okow (x := x6) (F := F6) Q1) (by rw [hx6]; exact List.length_pos_iff.2 (splitC_ne _ _)) (by exact Nat.le_refl _)), (show WfS [] from Nat.zero_le _)⟩ (by rw [hpl9]; have := polI_size (s := s) (by rw [← show x2.l = splitC 59 s from hx2]; omega); omega)) ?_
    clear hs; intro w hs
    refine Qm ?_
    refine WL.p Q0 (Yl.nes Q0 Q0) ?_
    refine WL.next ?_
    refine WC.condS Q0 (fun h4 => ?_) (fun h4 => ?_)
    ·
     replace h4 := not_eq_true h4
     replace h4 := of_decide_eq_false h4
     refine WC.seq ?_
     refine WL.p Q0 (Yl.build bt26 Q0 Q4) ?_
     refine WL.s (Yr.storeB hs Q0 Q0 Q0 Q5 Q3 Q0 (by exact szf26)) ?_
     clear hs; rintro _ w hs
     refine Qa ?_
     refine WL.next ?_
     refine WC.ret ?_
     refine At.thenret ?_
     refine fin2c rfl agg26 Q0 Q0 hs Q1 Q0 ?_
     refine Ret.mk hs ?_
     rw [hpl9] at h4
     have hb9 : policyIs s = false := policyIs_badI h1 h4
     exact ⟨⟨false, ⟨[], none, 0⟩, ⟨[], none, 0⟩, ⟨[], none, 0⟩, []⟩, by rw [hb9]; rfl, (policyOf_no (.inr hb9)).symm, ⟨⟨[], PPolicy.zown _, .nil, fun b h => by cases h⟩⟩⟩
    ·
     replace h4 := not_eq_false h4
     replace h4 := of_decide_eq_true h4
     refine WC.skipn ?_
     refine WC.seq ?_
     refine WL.p Q0 (Yl.loadAB agg26 Q0 hs Q1 Q0 Q0) ?_
     refine WL.call hs Q0 (Yc.func Q0 fn52) (c_impl_copyPolicy (⟨true, (x4.cut 1 x4.l.length), (x5.cut 1 x5.l.length), (x6.cut 1 x6.l.length), ([] : Str)⟩ : PPolicy) _ ⟨trivial, (Sl.Ok.cut (hs.okow (x := x4) (F := F4) Q1) (by rw [hx4]; exact List.length_pos_iff.2 (splitC_ne _ _)) (by exact Nat.le_refl _)), (Sl.Ok.cut (hs.okow (x := x5) (F := F5) Q1) (by rw [hx5]; exact List.length_pos_iff.2 (splitC_ne _ _)) (by exact Nat.le_refl _)), (Sl.Ok.cut (hs.okow (x := x6) (F := F6) Q1) (by rw [hx6]; exact List.length_pos_iff.2 (splitC_ne _ _)) (by exact Nat.le_refl _)), (show WfS [] from Nat.zero_le _)⟩ (by rw [hpl9]; have := polI_size (s := s) (by rw [← show x2.l = splitC 59 s from hx2]; omega); omega)) ?_
     have hs0 := hs; clear hs; intro v w hb hR hs; clear hs
     obtain ⟨x9, rfl, hx9, hf9⟩ := hR
     obtain ⟨F9, hs⟩ := hf9.sat hs0 hb; clear hs0 hf9
     refine WL.s (Yr.storeB hs Q0 Q0 Q0 Q5 Q3 Q0 (by exact szf26)) ?_
     clear hs; rintro _ w hs
     refine Qa ?_
     refine WL.next ?_
     refine WC.ret ?_
     refine fin2c rfl agg26 Q0 Q0 hs Q1 Q0 ?_
     refine Ret.mk hs ?_
     rw [hpl9] at h4
     have hq9 : x2.l = splitC 59 s := hx2
     have h49 : 3 ≤ (splitC 59 s).length := by rw [← hq9]; omega
     have hb9 : policyIs s = true := policyIs_goodI h1 h4 h49
     exact ⟨x9, by rw [hb9]; try rfl, hx9.trans (hpl9.trans (policyOf_goodI h1 hb9 h4).symm), hs.fresh Q1⟩

theorem c_impl_IsResponse (x : TResponse) (w : World) (h_x : Ph.ok w x) (hb : x.policy.length ≤ 1048576) (hm_ : ∃ m, w.cell? ⟨0, 0, none⟩ = some (.int .i64 m)) : Calls Tryd.prog 43 [.agg #[I x.status, I x.kind, S x.body, I x.age, Bo x.shares, S x.policy]].toArray w (RetP w (Bo x.isv)) := by
 refine enterN 33 Tryd.func43 rfl rfl rfl ?_
 have hs := Sat.start w
 refine WC.seq ?_
 refine WL.r Q0 (Yr.box hs Q0 Q0) ?_
 clear hs; rintro _ w ⟨b1, rfl, hb, hs⟩; clear hb
 refine Qa ?_
 refine WL.next ?_
 refine WC.seq ?_
 refine WL.p Q0 (Yl.fieldAddr fa45_5 Q0) ?_
 refine WL.p Q0 (Yl.loadB sca9 Q0 hs Q1 Q0) ?_
 refine WL.call hs Q0 (Yc.func Q0 fn9) (c_impl_ParsePolicy _ _ Q10 (by first | assumption | exact Sat.cellm hs (by assumption))) ?_
 have hs0 := hs; clear hs; intro v w hb hR hs; clear hs
 obtain ⟨x2, rfl, hx2, hf2⟩ := hR
 obtain ⟨F2, hs⟩ := hf2.sat hs0 hb; clear hs0 hf2
 refine Qm ?_
 refine WL.p Q0 (Yl.extract Q0 Q0) ?_
 refine WL.p Q0 (Yl.extract Q0 Q0) ?_
 refine WL.r Q0 (Yr.alloc hs zt26) ?_
 clear hs; rintro _ w ⟨b3, rfl, hb, hs⟩; clear hb
 refine WL.s (Yr.storeB hs Q0 Q0 Q0 Q5 Q3 Q0 (by exact szf26)) ?_
 clear hs; rintro _ w hs
 refine Qa ?_
 refine WL.next ?_
 refine WC.seq ?_
 refine Qm ?_
 refine Qm ?_
 refine WL.split (d := 12) Q0 (fun h1 => ?_) (fun h1 => ?_)
 ·
  refine WL.run (d := 12) Q0 Q0 ?_
  refine WL.p Q0 (Yl.fieldAddr fa45_0 Q0) ?_
  refine WL.run (d := 12) Q0 Q0 ?_
  refine WL.p Q0 (Yl.loadB sca3 Q0 hs Q1 Q0) ?_
  refine WL.run (d := 12) Q0 Q0 ?_
  refine WL.callp hs Q0 (Yc.func Q0 fn73) (c_impl_InRange _ _ _ _) ?_
  clear hs; intro w hs
  refine WL.p Q0 (Yl.pickT Q0 Q0) ?_
  refine Qm ?_
  refine WL.split (d := 17) Q0 (fun h2 => ?_) (fun h2 => ?_)
  ·
   replace h2 := inR_true.1 h2
   refine WL.run (d := 17) Q0 Q0 ?_
   refine WL.p Q0 (Yl.fieldAddr fa45_1 Q0) ?_
   refine WL.run (d := 17) Q0 Q0 ?_
   refine WL.p Q0 (Yl.loadB sca3 Q0 hs Q1 Q0) ?_
   refine WL.run (d := 17) Q0 Q0 ?_
   refine WL.callp hs Q0 (Yc.func Q0 fn73) (c_impl_InRange _ _ _ _) ?_
   clear hs; intro w hs
   refine WL.p Q0 (Yl.pickT Q0 Q0) ?_
   refine Qm ?_
   refine WL.split (d := 22) Q0 (fun h3 => ?_) (fun h3 => ?_)
   ·
    replace h3 := inR_true.1 h3
    refine WL.run (d := 22) Q0 Q0 ?_
    refine WL.p Q0 (Yl.fieldAddr fa45_2 Q0) ?_
    refine WL.run (d := 22) Q0 Q0 ?_
    refine WL.p Q0 (Yl.loadB sca9 Q0 hs Q1 Q0) ?_
    refine WL.run (d := 22) Q0 Q0 ?_
    refine WL.p Q0 (Yl.len_str str9 Q0) ?_
    refine WL.run (d := 22) Q0 Q0 ?_
    refine WL.p Q0 (Yl.leq Q0 Q0) ?_
    refine WL.p Q0 (Yl.pickT Q0 Q0) ?_
    refine Qm ?_
    refine WL.split (d := 28) Q0 (fun h4 => ?_) (fun h4 => ?_)
    ·
     replace h4 := of_decide_eq_true h4
     refine WL.run (d := 28) Q0 Q0 ?_
     refine WL.p Q0 (Yl.fieldAddr fa45_3 Q0) ?_
     refine WL.run (d := 28) Q0 Q0 ?_
     refine WL.p Q0 (Yl.loadB sca3 Q0 hs Q1 Q0) ?_
     refine WL.run (d := 28) Q0 Q0 ?_
     refine WL.callp hs Q0 (Yc.func Q0 fn73) (c_impl_InRange _ _ _ _) ?_
     clear hs; intro w hs
     refine WL.p Q0 (Yl.pickT Q0 Q0) ?_
     refine Qa ?_
     refine WL.next ?_
     refine WC.ret ?_
     refine fin1' rfl Q0 ?_
     refine RetP.mk hs ?_
     clear hs hb h_x
     try simp only [← inR_true] at *
     try simp only [← inR_false] at *
     simp_all [TResponse.isv]
     try (intro hh; omega)
    ·
     replace h4 := of_decide_eq_false h4
     refine WL.skip (d := 28) Q0 Q0 Q0 Q0 ?_
     refine WL.skip (d := 28) Q0 Q0 Q0 Q0 ?_
     refine WL.skip (d := 28) Q0 Q0 Q0 Q0 ?_
     refine WL.p Q0 (Yl.pickF Q0 Q0) ?_
     refine Qa ?_
     refine WL.next ?_
     refine WC.ret ?_
     refine fin1' rfl Q0 ?_
     refine RetP.mk hs ?_
     clear hs hb h_x
     try simp only [← inR_true] at *
     try simp only [← inR_false] at *
     simp_all [TResponse.isv]
     try (intro hh; omega)
   ·
    replace h3 := inR_false.1 h3
    refine WL.skip (d := 22) Q0 Q0 Q0 Q0 ?_
    refine WL.skip (d := 22) Q0 Q0 Q0 Q0 ?_
    refine WL.skip (d := 22) Q0 Q0 Q0 Q0 ?_
    refine WL.skip (d := 22) Q0 Q0 Q0 Q0 ?_
    refine WL.p Q0 (Yl.pickF Q0 Q0) ?_
    refine Qm ?_
    refine WL.skip (d := 28) Q0 Q0 Q0 Q0 ?_
    refine WL.skip (d := 28) Q0 Q0 Q0 Q0 ?_
    refine WL.skip (d := 28) Q0 Q0 Q0 Q0 ?_
    refine WL.p Q0 (Yl.pickF Q0 Q0) ?_
    refine Qa ?_
    refine WL.next ?_
    refine WC.ret ?_
    refine fin1' rfl Q0 ?_
    refine RetP.mk hs ?_
    clear hs hb h_x
    try simp only [← inR_true] at *
    try simp only [← inR_false] at *
    simp_all [TResponse.isv]
    try (intro hh; omega)
  ·
   replace h2 := inR_false.1 h2
   refine WL.skip (d := 17) Q0 Q0 Q0 Q0 ?_
   refine WL.skip (d := 17) Q0 Q0 Q0 Q0 ?_
   refine WL.skip (d := 17) Q0 Q0 Q0 Q0 ?_
   refine WL.p Q0 (Yl.pickF Q0 Q0) ?_
   refine Qm ?_
   refine WL.skip (d := 22) Q0 Q0 Q0 Q0 ?_
   refine WL.skip (d := 22) Q0 Q0 Q0 Q0 ?_
   refine WL.skip (d := 22) Q0 Q0 Q0 Q0 ?_
   refine WL.skip (d := 22) Q0 Q0 Q0 Q0 ?_
   refine WL.p Q0 (Yl.pickF Q0 Q0) ?_
   refine Qm ?_
   refine WL.skip (d := 28) Q0 Q0 Q0 Q0 ?_
   refine WL.skip (d := 28) Q0 Q0 Q0 Q0 ?_
   refine WL.skip (d := 28) Q0 Q0 Q0 Q0 ?_
   refine WL.p Q0 (Yl.pickF Q0 Q0) ?_
   refine Qa ?_
   refine WL.next ?_
   refine WC.ret ?_
   refine fin1' rfl Q0 ?_
   refine RetP.mk hs ?_
   clear hs hb h_x
   try simp only [← inR_true] at *
   try simp only [← inR_false] at *
   simp_all [TResponse.isv]
   try (intro hh; omega)
 ·
  refine WL.skip (d := 12) Q0 Q0 Q0 Q0 ?_
  refine WL.skip (d := 12) Q0 Q0 Q0 Q0 ?_
  refine WL.skip (d := 12) Q0 Q0 Q0 Q0 ?_
  refine WL.p Q0 (Yl.pickF Q0 Q0) ?_
  refine Qm ?_
  refine WL.skip (d := 17) Q0 Q0 Q0 Q0 ?_
  refine WL.skip (d := 17) Q0 Q0 Q0 Q0 ?_
  refine WL.skip (d := 17) Q0 Q0 Q0 Q0 ?_
  refine WL.p Q0 (Yl.pickF Q0 Q0) ?_
  refine Qm ?_
  refine WL.skip (d := 22) Q0 Q0 Q0 Q0 ?_
  refine WL.skip (d := 22) Q0 Q0 Q0 Q0 ?_
  refine WL.skip (d := 22) Q0 Q0 Q0 Q0 ?_
  refine WL.skip (d := 22) Q0 Q0 Q0 Q0 ?_
  refine WL.p Q0 (Yl.pickF Q0 Q0) ?_
  refine Qm ?_
  refine WL.skip (d := 28) Q0 Q0 Q0 Q0 ?_
  refine WL.skip (d := 28) Q0 Q0 Q0 Q0 ?_
  refine WL.skip (d := 28) Q0 Q0 Q0 Q0 ?_
  refine WL.p Q0 (Yl.pickF Q0 Q0) ?_
  refine Qa ?_
  refine WL.next ?_
  refine WC.ret ?_
  refine fin1' rfl Q0 ?_
  refine RetP.mk hs ?_
  clear hs hb h_x
  try simp only [← inR_true] at *
  try simp only [← inR_false] at *
  simp_all [TResponse.isv]
  try (intro hh; omega)

theorem c_slices_IndexFunc___impl_Entry_impl_Entry_ (s : (Sl TEntry)) (f : FuncId) (us_f : List Value) (p_f : TEntry → Bool) (w : World) (h_s : Ph.ok w s)  (hfn_f : FN Tryd.prog f) (hf_f : ∀ x ∈ s.l, ∀ w', Below w.heap.size w w' → Calls Tryd.prog f (([.agg (Ph.enc x).toArray] : List Value) ++ us_f).toArray w' (RetP w' (Bo (p_f x)))) : Calls Tryd.prog 79 [Sl.v s, .func (.func f) #[] us_f.toArray].toArray w (RetP w (I (idxF (p_f) s.l 0))) := by
 have hw := h_s.lt
 refine enterN 19 Tryd.func79 rfl rfl rfl ?_
 have hs := Sat.start w
 refine WC.seq ?_
 refine Qa ?_
 refine WL.next ?_
 refine WC.seq' ?_
 refine WC.seq ?_
 refine Qm ?_
 refine WL.p Q0 (Yl.len_sl slu39 Q0) ?_
 refine Qm ?_
 refine WL.next ?_
 refine WC.block ?_
 refine WC.loopC (ι := Nat) (fun k => s.l.length - k) (fun k => [(8, I (k : Int))]) (fun _ => []) (fun k => idxF (p_f) s.l 0 = idxF (p_f) (s.l.drop k) k) [(0, _), (1, _), (7, _)] 0 (hs) ⟨by rfl, by rfl, by rfl, trivial⟩ ⟨by rfl, trivial⟩ ?_ ?_
 ·
  simp
 clear hs; rintro k w hJ hs
 simp only [List.nil_append] at hs
 refine WC.seq ?_
 refine WL.p Q0 (Yl.lss Q0 Q0) ?_
 refine WL.next ?_
 refine WC.seq' ?_
 refine WC.condS Q0 (fun h1 => ?_) (fun h1 => ?_)
 ·
  replace h1 := of_decide_eq_true h1
  obtain ⟨d, hd⟩ := exists_get (l := s.l) (k := k) Q7
  rw [drop_cons hd] at hJ
  refine WC.skipn ?_
  refine WC.seq' ?_
  refine WC.block ?_
  refine WC.seq ?_
  refine Qm ?_
  refine Qa ?_
  refine WL.next ?_
  refine WC.seq ?_
  refine Qm ?_
  refine Qm ?_
  refine Qm ?_
  refine WL.p Q0 (Yl.indexAddr slt39 Q0 Q0 (Ph.old h_s hs) Q0 (hd)) ?_
  refine WL.p Q0 (Yl.loadA agg99 Q0 (Sl.Ok.at_ (Ph.old h_s hs) (by assumption)).2 Q0) ?_
  refine WL.callp hs Q0 (Yc.value Q0 Q0 hfn_f Q0) (hf_f _ (List.mem_of_getElem? (by assumption)) _ hs.below) ?_
  clear hs; intro w hs
  refine WL.next ?_
  refine WC.condS Q0 (fun h2 => ?_) (fun h2 => ?_)
  ·
   refine WC.seq ?_
   refine Qm ?_
   refine Qa ?_
   refine WL.next ?_
   refine WC.ret ?_
   refine At.blockret ?_
   refine At.thenret ?_
   refine At.thenret ?_
   refine At.blockret ?_
   refine At.thenret ?_
   refine fin1' rfl Q0 ?_
   refine RetP.mk hs ?_
   rw [hJ]; simp_all [idxF]
  ·
   refine WC.skip ?_
   refine At.blocknormal ?_
   refine At.then_ ?_
   refine WC.region ?_
   refine WL.p Q0 (Yl.add Q0 Q0 Q7) ?_
   refine Qm ?_
   refine WL.nil ?_
   refine At.roundC (k + 1) (hs.only Q2) ⟨by rfl, by rfl, by rfl, trivial⟩ ⟨by rfl, trivial⟩ ?_ ?_
   ·
    omega
   ·
    rw [hJ]; simp_all [idxF]
 ·
  replace h1 := of_decide_eq_false h1
  rw [drop_out (l := s.l) Q7] at hJ
  refine WC.exit ?_
  refine At.thenexit ?_
  refine At.thenexit ?_
  refine At.blockexit ?_
  refine At.then_ ?_
  refine WC.seq ?_
  refine Qa ?_
  refine WL.next ?_
  refine WC.ret ?_
  refine fin1' rfl Q0 ?_
  refine RetP.mk hs ?_
  rw [hJ]; simp_all [idxF]

theorem c_impl_entryAt_1 (e : TEntry) (top : Str) (b1 : Nat) (a : TAddr) (b2 : Nat) (w : World)   (hc1 : CellsAt w b1 0 [S top]) (hc2 : CellsAt w b2 0 [S a.host, S a.path]) : Calls Tryd.prog 119 [.agg #[S e.top, S e.to.host, S e.to.path, I e.response.status, I e.response.kind, S e.response.body, I e.response.age, Bo e.response.shares, S e.response.policy, I e.until_], bp b1 0, bp b2 0].toArray w (RetP w (Bo (decide (e.top = top) && decide (e.to = a)))) := by
 refine enterN 15 Tryd.func119 rfl rfl rfl ?_
 have hs := Sat.start w
 refine WC.seq ?_
 refine WL.r Q0 (Yr.box hs Q0 Q0) ?_
 clear hs; rintro _ w ⟨b1, rfl, hb, hs⟩; clear hb
 refine Qa ?_
 refine WL.next ?_
 refine WC.seq ?_
 refine WL.p Q0 (Yl.fieldAddr fa99_0 Q0) ?_
 refine WL.p Q0 (Yl.loadB sca9 Q0 hs Q1 Q0) ?_
 refine WL.p Q0 (Yl.loadC0 sca9 Q0 (hc1.ext hs.below) Q0) ?_
 refine WL.p Q0 (Yl.eqs Q0 Q0) ?_
 refine Qm ?_
 refine WL.split (d := 9) Q0 (fun h1 => ?_) (fun h1 => ?_)
 ·
  replace h1 := of_decide_eq_true h1
  refine WL.run (d := 9) Q0 Q0 ?_
  refine WL.p Q0 (Yl.fieldAddr fa99_1 Q0) ?_
  refine WL.run (d := 9) Q0 Q0 ?_
  refine WL.p Q0 (Yl.loadAB agg43 Q0 hs Q1 Q0 Q0) ?_
  refine WL.run (d := 9) Q0 Q0 ?_
  refine WL.p Q0 (Yl.loadA agg43 Q0 (hc2.ext hs.below) Q0) ?_
  refine WL.run (d := 9) Q0 Q0 ?_
  refine WL.p Q0 (Yl.eqt eqt43 Q0 Q0) ?_
  refine WL.p Q0 (Yl.pickT Q0 Q0) ?_
  refine Qa ?_
  refine WL.next ?_
  refine WC.ret ?_
  refine fin1' rfl Q0 ?_
  refine RetP.mk hs ?_
  simp_all
 ·
  replace h1 := of_decide_eq_false h1
  refine WL.skip (d := 9) Q0 Q0 Q0 Q0 ?_
  refine WL.skip (d := 9) Q0 Q0 Q0 Q0 ?_
  refine WL.skip (d := 9) Q0 Q0 Q0 Q0 ?_
  refine WL.skip (d := 9) Q0 Q0 Q0 Q0 ?_
  refine WL.p Q0 (Yl.pickF Q0 Q0) ?_
  refine Qa ?_
  refine WL.next ?_
  refine WC.ret ?_
  refine fin1' rfl Q0 ?_
  refine RetP.mk hs ?_
  simp_all

theorem c_impl_entryAt (c : PCache) (top : Str) (a : TAddr) (w : World) (h_c : Ph.ok w c)  : Calls Tryd.prog 72 [.agg #[Sl.v c.entries], S top, .agg #[S a.host, S a.path]].toArray w (RetP w (I (idxF (fun e : TEntry => decide (e.top = top) && decide (e.to = a)) c.entries.l 0))) := by
 have hw := h_c.entries.lt
 refine enterN 11 Tryd.func72 rfl rfl rfl ?_
 have hs := Sat.start w
 refine WC.seq ?_
 refine WL.r Q0 (Yr.box hs Q0 Q0) ?_
 clear hs; rintro _ w ⟨b1, rfl, hb, hs⟩; clear hb
 refine WL.r Q0 (Yr.box hs Q0 Q0) ?_
 clear hs; rintro _ w ⟨b2, rfl, hb, hs⟩; clear hb
 refine WL.r Q0 (Yr.box hs Q0 Q0) ?_
 clear hs; rintro _ w ⟨b3, rfl, hb, hs⟩; clear hb
 refine Qa ?_
 refine WL.next ?_
 refine WC.seq ?_
 refine WL.p Q0 (Yl.fieldAddr fa41_0 Q0) ?_
 refine WL.p Q0 (Yl.loadB sca39 Q0 hs Q1 Q0) ?_
 refine WL.p Q0 (Yl.makeFunc Q0 Q0) ?_
 refine WL.callp hs Q0 (Yc.func Q0 fn79) (c_slices_IndexFunc___impl_Entry_impl_Entry_ _ 119 _ (fun e : TEntry => decide (e.top = top) && decide (e.to = a)) _ (Ph.old h_c.entries hs) fn119 (fun x hx w1 hb1 => c_impl_entryAt_1 x _ _ _ _ w1 ((hs.ext hb1).box_cells Q1) ((hs.ext hb1).box_cells Q1))) ?_
 clear hs; intro w hs
 refine Qa ?_
 refine WL.next ?_
 refine WC.ret ?_
 refine fin1' rfl Q0 ?_
 refine RetP.mk hs ?_
 rfl

theorem c_impl_IsAddr (a : TAddr) (w : World) (h_a : Ph.ok w a)  : Calls Tryd.prog 84 [.agg #[S a.host, S a.path]].toArray w (RetP w (Bo (a.is))) := by
 refine enterN 11 Tryd.func84 rfl rfl rfl ?_
 have hs := Sat.start w
 refine WC.seq ?_
 refine WL.r Q0 (Yr.box hs Q0 Q0) ?_
 clear hs; rintro _ w ⟨b1, rfl, hb, hs⟩; clear hb
 refine Qa ?_
 refine WL.next ?_
 refine WC.seq ?_
 refine WL.p Q0 (Yl.fieldAddr fa43_0 Q0) ?_
 refine WL.p Q0 (Yl.loadB sca9 Q0 hs Q1 Q0) ?_
 refine WL.callp hs Q0 (Yc.func Q0 fn83) (c_impl_IsName _ _ (Ph.old h_a.host hs)) ?_
 clear hs; intro w hs
 refine Qm ?_
 refine WL.split (d := 6) Q0 (fun h1 => ?_) (fun h1 => ?_)
 ·
  refine WL.run (d := 6) Q0 Q0 ?_
  refine WL.p Q0 (Yl.fieldAddr fa43_1 Q0) ?_
  refine WL.run (d := 6) Q0 Q0 ?_
  refine WL.p Q0 (Yl.loadB sca9 Q0 hs Q1 Q0) ?_
  refine WL.run (d := 6) Q0 Q0 ?_
  refine WL.callp hs Q0 (Yc.func Q0 fn83) (c_impl_IsName _ _ (Ph.old h_a.path hs)) ?_
  clear hs; intro w hs
  refine WL.p Q0 (Yl.pickT Q0 Q0) ?_
  refine Qa ?_
  refine WL.next ?_
  refine WC.ret ?_
  refine fin1' rfl Q0 ?_
  refine RetP.mk hs ?_
  simp_all [TAddr.is]
 ·
  refine WL.skip (d := 6) Q0 Q0 Q0 Q0 ?_
  refine WL.skip (d := 6) Q0 Q0 Q0 Q0 ?_
  refine WL.skip (d := 6) Q0 Q0 Q0 Q0 ?_
  refine WL.p Q0 (Yl.pickF Q0 Q0) ?_
  refine Qa ?_
  refine WL.next ?_
  refine WC.ret ?_
  refine fin1' rfl Q0 ?_
  refine RetP.mk hs ?_
  simp_all [TAddr.is]

theorem c_impl_IsCache (c : PCache) (w : World) (h_c : Ph.ok w c) (hp : ∀ e ∈ c.entries.l, e.response.policy.length ≤ 1048576) (hm_ : ∃ m, w.cell? ⟨0, 0, none⟩ = some (.int .i64 m)) : Calls Tryd.prog 27 [.agg #[Sl.v c.entries]].toArray w (RetP w (Bo (cacheOk c.lg))) := by
 have hw := h_c.entries.lt
 refine enterN 50 Tryd.func27 rfl rfl rfl ?_
 have hs := Sat.start w
 refine WC.seq ?_
 refine WL.r Q0 (Yr.box hs Q0 Q0) ?_
 clear hs; rintro _ w ⟨b1, rfl, hb, hs⟩; clear hb
 refine Qa ?_
 refine WL.next ?_
 refine WC.seq' ?_
 refine WC.seq ?_
 refine WL.p Q0 (Yl.fieldAddr fa41_0 Q0) ?_
 refine WL.p Q0 (Yl.loadB sca39 Q0 hs Q1 Q0) ?_
 refine WL.p Q0 (Yl.len_sl slu39 Q0) ?_
 refine Qm ?_
 refine WL.next ?_
 refine WC.block ?_
 refine WC.loopC (ι := Nat) (fun k => c.entries.l.length - k) (fun k => [(8, I (k : Int))]) (fun _ => []) (fun k => uniqF entryOk sameEntry [] c.entries.l = uniqF entryOk sameEntry (c.entries.l.take k) (c.entries.l.drop k)) [(0, _), (1, _), (6, _), (7, _)] 0 (hs) ⟨by rfl, by rfl, by rfl, by rfl, trivial⟩ ⟨by rfl, trivial⟩ ?_ ?_
 ·
  simp
 clear hs; rintro k w hJ hs
 simp only [List.nil_append] at hs
 refine WC.seq ?_
 refine WL.p Q0 (Yl.lss Q0 Q0) ?_
 refine WL.next ?_
 refine WC.seq' ?_
 refine WC.condS Q0 (fun h1 => ?_) (fun h1 => ?_)
 ·
  replace h1 := of_decide_eq_true h1
  obtain ⟨d, hd⟩ := exists_get (l := c.entries.l) (k := k) Q7
  rw [uniq_step hd] at hJ
  have hpd : d.response.policy.length ≤ 1048576 := hp d (List.mem_of_getElem? hd)
  have hix := idx_first0 (p := fun e : TEntry => decide (e.top = d.top) && decide (e.to = d.to)) hd (by simp)
  replace hix : _ ↔ (c.entries.l.take k).any (sameEntry d) = false := hix
  generalize (c.entries.l.take k).any (sameEntry d) = u at hJ hix
  refine WC.skipn ?_
  refine WC.seq' ?_
  refine WC.block ?_
  refine WC.seq ?_
  refine Qm ?_
  refine WL.p Q0 (Yl.indexAddr slt39 Q0 Q0 (Ph.old h_c.entries hs) Q0 (hd)) ?_
  refine WL.p Q0 (Yl.loadA agg99 Q0 (Sl.Ok.at_ (Ph.old h_c.entries hs) (by assumption)).2 Q0) ?_
  refine WL.r Q0 (Yr.alloc hs zt99) ?_
  clear hs; rintro _ w ⟨b2, rfl, hb, hs⟩; clear hb
  refine Qa ?_
  refine WL.s (Yr.storeB hs Q0 Q0 Q0 Q5 Q3 Q0 (by exact szf99)) ?_
  clear hs; rintro _ w hs
  refine WL.next ?_
  refine WC.seq ?_
  refine WL.p Q0 (Yl.fieldAddr fa99_0 Q0) ?_
  refine WL.p Q0 (Yl.loadB sca9 Q0 hs Q1 Q0) ?_
  refine WL.callp hs Q0 (Yc.func Q0 fn83) (c_impl_IsName _ _ (Ph.old (Sl.Ok.elem h_c.entries hd).top hs)) ?_
  clear hs; intro w hs
  refine WL.p Q0 (Yl.not Q0) ?_
  refine Qm ?_
  refine WL.split (d := 17) Q0 (fun h2 => ?_) (fun h2 => ?_)
  ·
   replace h2 := not_eq_true h2
   refine WL.skip (d := 17) Q0 Q0 Q0 Q0 ?_
   refine WL.skip (d := 17) Q0 Q0 Q0 Q0 ?_
   refine WL.skip (d := 17) Q0 Q0 Q0 Q0 ?_
   refine WL.skip (d := 17) Q0 Q0 Q0 Q0 ?_
   refine WL.p Q0 (Yl.pickT Q0 Q0) ?_
   refine Qm ?_
   refine WL.skip (d := 23) Q0 Q0 Q0 Q0 ?_
   refine WL.skip (d := 23) Q0 Q0 Q0 Q0 ?_
   refine WL.skip (d := 23) Q0 Q0 Q0 Q0 ?_
   refine WL.skip (d := 23) Q0 Q0 Q0 Q0 ?_
   refine WL.p Q0 (Yl.pickT Q0 Q0) ?_
   refine Qm ?_
   refine WL.skip (d := 29) Q0 Q0 Q0 Q0 ?_
   refine WL.skip (d := 29) Q0 Q0 Q0 Q0 ?_
   refine WL.skip (d := 29) Q0 Q0 Q0 Q0 ?_
   refine WL.skip (d := 29) Q0 Q0 Q0 Q0 ?_
   refine WL.p Q0 (Yl.pickT Q0 Q0) ?_
   refine Qm ?_
   refine WL.skip (d := 35) Q0 Q0 Q0 Q0 ?_
   refine WL.skip (d := 35) Q0 Q0 Q0 Q0 ?_
   refine WL.skip (d := 35) Q0 Q0 Q0 Q0 ?_
   refine WL.skip (d := 35) Q0 Q0 Q0 Q0 ?_
   refine WL.skip (d := 35) Q0 Q0 Q0 Q0 ?_
   refine WL.skip (d := 35) Q0 Q0 Q0 Q0 ?_
   refine WL.skip (d := 35) Q0 Q0 Q0 Q0 ?_
   refine WL.skip (d := 35) Q0 Q0 Q0 Q0 ?_
   refine WL.p Q0 (Yl.pickT Q0 Q0) ?_
   refine WL.next ?_
   refine WC.condT Q0 ?_
   refine WC.seq ?_
   refine Qa ?_
   refine WL.next ?_
   refine WC.ret ?_
   refine At.blockret ?_
   refine At.thenret ?_
   refine At.thenret ?_
   refine At.blockret ?_
   refine At.thenret ?_
   refine fin1' rfl Q0 ?_
   refine RetP.mk hs ?_
   simp only [cacheOk]
   simp_all [entryOk]
   try omega
  ·
   replace h2 := not_eq_false h2
   refine WL.run (d := 17) Q0 Q0 ?_
   refine WL.p Q0 (Yl.fieldAddr fa99_1 Q0) ?_
   refine WL.run (d := 17) Q0 Q0 ?_
   refine WL.p Q0 (Yl.loadAB agg43 Q0 hs Q1 Q0 Q0) ?_
   refine WL.run (d := 17) Q0 Q0 ?_
   refine WL.callp hs Q0 (Yc.func Q0 fn84) (c_impl_IsAddr _ _ ⟨(Ph.old (Sl.Ok.elem h_c.entries hd).to.host hs), (Ph.old (Sl.Ok.elem h_c.entries hd).to.path hs)⟩) ?_
   clear hs; intro w hs
   refine WL.run (d := 17) Q0 Q0 ?_
   refine WL.p Q0 (Yl.not Q0) ?_
   refine WL.p Q0 (Yl.pickF Q0 Q0) ?_
   refine Qm ?_
   refine WL.split (d := 23) Q0 (fun h3 => ?_) (fun h3 => ?_)
   ·
    replace h3 := not_eq_true h3
    refine WL.skip (d := 23) Q0 Q0 Q0 Q0 ?_
    refine WL.skip (d := 23) Q0 Q0 Q0 Q0 ?_
    refine WL.skip (d := 23) Q0 Q0 Q0 Q0 ?_
    refine WL.skip (d := 23) Q0 Q0 Q0 Q0 ?_
    refine WL.p Q0 (Yl.pickT Q0 Q0) ?_
    refine Qm ?_
    refine WL.skip (d := 29) Q0 Q0 Q0 Q0 ?_
    refine WL.skip (d := 29) Q0 Q0 Q0 Q0 ?_
    refine WL.skip (d := 29) Q0 Q0 Q0 Q0 ?_
    refine WL.skip (d := 29) Q0 Q0 Q0 Q0 ?_
    refine WL.p Q0 (Yl.pickT Q0 Q0) ?_
    refine Qm ?_
    refine WL.skip (d := 35) Q0 Q0 Q0 Q0 ?_
    refine WL.skip (d := 35) Q0 Q0 Q0 Q0 ?_
    refine WL.skip (d := 35) Q0 Q0 Q0 Q0 ?_
    refine WL.skip (d := 35) Q0 Q0 Q0 Q0 ?_
    refine WL.skip (d := 35) Q0 Q0 Q0 Q0 ?_
    refine WL.skip (d := 35) Q0 Q0 Q0 Q0 ?_
    refine WL.skip (d := 35) Q0 Q0 Q0 Q0 ?_
    refine WL.skip (d := 35) Q0 Q0 Q0 Q0 ?_
    refine WL.p Q0 (Yl.pickT Q0 Q0) ?_
    refine WL.next ?_
    refine WC.condT Q0 ?_
    refine WC.seq ?_
    refine Qa ?_
    refine WL.next ?_
    refine WC.ret ?_
    refine At.blockret ?_
    refine At.thenret ?_
    refine At.thenret ?_
    refine At.blockret ?_
    refine At.thenret ?_
    refine fin1' rfl Q0 ?_
    refine RetP.mk hs ?_
    simp only [cacheOk]
    simp_all [entryOk]
    try omega
   ·
    replace h3 := not_eq_false h3
    refine WL.run (d := 23) Q0 Q0 ?_
    refine WL.p Q0 (Yl.fieldAddr fa99_2 Q0) ?_
    refine WL.run (d := 23) Q0 Q0 ?_
    refine WL.p Q0 (Yl.loadAB agg45 Q0 hs Q1 Q0 Q0) ?_
    refine WL.run (d := 23) Q0 Q0 ?_
    refine WL.callp hs Q0 (Yc.func Q0 fn43) (c_impl_IsResponse _ _ ⟨(Ph.old (Sl.Ok.elem h_c.entries hd).response.status hs), (Ph.old (Sl.Ok.elem h_c.entries hd).response.kind hs), (Ph.old (Sl.Ok.elem h_c.entries hd).response.body hs), (Ph.old (Sl.Ok.elem h_c.entries hd).response.age hs), (Ph.old (Sl.Ok.elem h_c.entries hd).response.shares hs), (Ph.old (Sl.Ok.elem h_c.entries hd).response.policy hs)⟩ (by first | assumption | omega) (by first | assumption | exact Sat.cellm hs (by assumption))) ?_
    clear hs; intro w hs
    refine WL.run (d := 23) Q0 Q0 ?_
    refine WL.p Q0 (Yl.not Q0) ?_
    refine WL.p Q0 (Yl.pickF Q0 Q0) ?_
    refine Qm ?_
    refine WL.split (d := 29) Q0 (fun h4 => ?_) (fun h4 => ?_)
    ·
     replace h4 := not_eq_true h4
     refine WL.skip (d := 29) Q0 Q0 Q0 Q0 ?_
     refine WL.skip (d := 29) Q0 Q0 Q0 Q0 ?_
     refine WL.skip (d := 29) Q0 Q0 Q0 Q0 ?_
     refine WL.skip (d := 29) Q0 Q0 Q0 Q0 ?_
     refine WL.p Q0 (Yl.pickT Q0 Q0) ?_
     refine Qm ?_
     refine WL.skip (d := 35) Q0 Q0 Q0 Q0 ?_
     refine WL.skip (d := 35) Q0 Q0 Q0 Q0 ?_
     refine WL.skip (d := 35) Q0 Q0 Q0 Q0 ?_
     refine WL.skip (d := 35) Q0 Q0 Q0 Q0 ?_
     refine WL.skip (d := 35) Q0 Q0 Q0 Q0 ?_
     refine WL.skip (d := 35) Q0 Q0 Q0 Q0 ?_
     refine WL.skip (d := 35) Q0 Q0 Q0 Q0 ?_
     refine WL.skip (d := 35) Q0 Q0 Q0 Q0 ?_
     refine WL.p Q0 (Yl.pickT Q0 Q0) ?_
     refine WL.next ?_
     refine WC.condT Q0 ?_
     refine WC.seq ?_
     refine Qa ?_
     refine WL.next ?_
     refine WC.ret ?_
     refine At.blockret ?_
     refine At.thenret ?_
     refine At.thenret ?_
     refine At.blockret ?_
     refine At.thenret ?_
     refine fin1' rfl Q0 ?_
     refine RetP.mk hs ?_
     simp only [cacheOk]
     simp_all [entryOk]
     try omega
    ·
     replace h4 := not_eq_false h4
     refine WL.run (d := 29) Q0 Q0 ?_
     refine WL.p Q0 (Yl.fieldAddr fa99_2 Q0) ?_
     refine WL.run (d := 29) Q0 Q0 ?_
     refine WL.p Q0 (Yl.fieldAddr fa45_0 Q0) ?_
     refine WL.run (d := 29) Q0 Q0 ?_
     refine WL.p Q0 (Yl.loadB sca3 Q0 hs Q1 Q0) ?_
     refine WL.run (d := 29) Q0 Q0 ?_
     refine WL.p Q0 (Yl.nei Q0 Q0) ?_
     refine WL.p Q0 (Yl.pickF Q0 Q0) ?_
     refine Qm ?_
     refine WL.split (d := 35) Q0 (fun h5 => ?_) (fun h5 => ?_)
     ·
      replace h5 := not_eq_true h5
      replace h5 := of_decide_eq_false h5
      refine WL.skip (d := 35) Q0 Q0 Q0 Q0 ?_
      refine WL.skip (d := 35) Q0 Q0 Q0 Q0 ?_
      refine WL.skip (d := 35) Q0 Q0 Q0 Q0 ?_
      refine WL.skip (d := 35) Q0 Q0 Q0 Q0 ?_
      refine WL.skip (d := 35) Q0 Q0 Q0 Q0 ?_
      refine WL.skip (d := 35) Q0 Q0 Q0 Q0 ?_
      refine WL.skip (d := 35) Q0 Q0 Q0 Q0 ?_
      refine WL.skip (d := 35) Q0 Q0 Q0 Q0 ?_
      refine WL.p Q0 (Yl.pickT Q0 Q0) ?_
      refine WL.next ?_
      refine WC.condT Q0 ?_
      refine WC.seq ?_
      refine Qa ?_
      refine WL.next ?_
      refine WC.ret ?_
      refine At.blockret ?_
      refine At.thenret ?_
      refine At.thenret ?_
      refine At.blockret ?_
      refine At.thenret ?_
      refine fin1' rfl Q0 ?_
      refine RetP.mk hs ?_
      simp only [cacheOk]
      simp_all [entryOk]
      try omega
     ·
      replace h5 := not_eq_false h5
      replace h5 := of_decide_eq_true h5
      refine WL.run (d := 35) Q0 Q0 ?_
      refine WL.p Q0 (Yl.loadAB agg41 Q0 hs Q1 Q0 Q0) ?_
      refine WL.run (d := 35) Q0 Q0 ?_
      refine WL.p Q0 (Yl.fieldAddr fa99_0 Q0) ?_
      refine WL.run (d := 35) Q0 Q0 ?_
      refine WL.p Q0 (Yl.loadB sca9 Q0 hs Q1 Q0) ?_
      refine WL.run (d := 35) Q0 Q0 ?_
      refine WL.p Q0 (Yl.fieldAddr fa99_1 Q0) ?_
      refine WL.run (d := 35) Q0 Q0 ?_
      refine WL.p Q0 (Yl.loadAB agg43 Q0 hs Q1 Q0 Q0) ?_
      refine WL.run (d := 35) Q0 Q0 ?_
      refine WL.callp hs Q0 (Yc.func Q0 fn72) (c_impl_entryAt _ _ _ _ (Ph.old h_c hs)) ?_
      clear hs; intro w hs
      refine WL.run (d := 35) Q0 Q0 ?_
      refine Qm ?_
      refine WL.run (d := 35) Q0 Q0 ?_
      refine WL.p Q0 (Yl.nei Q0 Q0) ?_
      refine WL.p Q0 (Yl.pickF Q0 Q0) ?_
      refine WL.next ?_
      refine WC.condS Q0 (fun h6 => ?_) (fun h6 => ?_)
      ·
       replace h6 := not_eq_true h6
       replace h6 := of_decide_eq_false h6
       refine WC.seq ?_
       refine Qa ?_
       refine WL.next ?_
       refine WC.ret ?_
       refine At.blockret ?_
       refine At.thenret ?_
       refine At.thenret ?_
       refine At.blockret ?_
       refine At.thenret ?_
       refine fin1' rfl Q0 ?_
       refine RetP.mk hs ?_
       simp only [cacheOk]
       simp_all [entryOk]
       try omega
      ·
       replace h6 := not_eq_false h6
       replace h6 := of_decide_eq_true h6
       refine WC.skip ?_
       refine At.blocknormal ?_
       refine At.then_ ?_
       refine WC.region ?_
       refine WL.p Q0 (Yl.add Q0 Q0 Q7) ?_
       refine Qm ?_
       refine WL.nil ?_
       refine At.roundC (k + 1) (hs.only Q2) ⟨by rfl, by rfl, by rfl, by rfl, trivial⟩ ⟨by rfl, trivial⟩ ?_ ?_
       ·
        omega
       ·
        rw [hJ]; simp_all [entryOk]
 ·
  replace h1 := of_decide_eq_false h1
  rw [uniq_end (l := c.entries.l) Q7] at hJ
  refine WC.exit ?_
  refine At.thenexit ?_
  refine At.thenexit ?_
  refine At.blockexit ?_
  refine At.then_ ?_
  refine WC.seq ?_
  refine WL.p Q0 (Yl.fieldAddr fa41_0 Q0) ?_
  refine WL.p Q0 (Yl.loadB sca39 Q0 hs Q1 Q0) ?_
  refine WL.p Q0 (Yl.len_sl slu39 Q0) ?_
  refine WL.p Q0 (Yl.leq Q0 Q0) ?_
  refine Qa ?_
  refine WL.next ?_
  refine WC.ret ?_
  refine fin1' rfl Q0 ?_
  refine RetP.mk hs ?_
  simp only [cacheOk]
  simp_all [entryOk]
  try omega

theorem c_impl_copyCache (c : PCache) (w : World) (h_c : Ph.ok w c) (hb : c.lg.size ≤ 1048576) : Calls Tryd.prog 71 [.agg #[Sl.v c.entries]].toArray w (Ret w (fun v w' => ∃ x : PCache, v = .agg (Ph.enc x).toArray ∧ x.lg = c.lg ∧ Fresh w x w')) := by
 have hw := h_c.entries.lt
 refine enterN 8 Tryd.func71 rfl rfl rfl ?_
 have hs := Sat.start w
 refine WC.seq ?_
 refine WL.r Q0 (Yr.box hs Q0 Q0) ?_
 clear hs; rintro _ w ⟨b1, rfl, hb, hs⟩; clear hb
 refine WL.r Q0 (Yr.alloc hs zt41) ?_
 clear hs; rintro _ w ⟨b2, rfl, hb, hs⟩; clear hb
 refine WL.next ?_
 refine WC.seq ?_
 refine WL.r Q0 (Yr.buildSlice hs sll39 Q0 Q0 Q0 Q4 Q0) ?_
 clear hs; rintro _ w ⟨b3, rfl, hb, hs⟩; clear hb
 refine WL.p Q0 (Yl.fieldAddr fa41_0 Q0) ?_
 refine WL.p Q0 (Yl.loadB sca39 Q0 hs Q1 Q0) ?_
 replace hs := (Sat.boxow (l := ([] : List TEntry)) (hs.sel (D := [box b3 _ _]) Q2) rfl rfl (by simp [maxLen]) (ownL_mk_flat (by simp)))
 refine WL.r Q0 (Yr.appendS (s := (⟨[], some ⟨b3, 0, none⟩, _⟩ : Sl TEntry)) (F := [b3]) (r := c.entries) hs elt39 Q2 Q0 Q0 (Ph.old h_c.entries hs) (by simp; unfold maxLen; omega) (by simp only [TCache.size, lsz] at hb; simp; omega)) ?_
 clear hs; rintro _ w ⟨s4, F4, rfl, hl4, hs⟩
 refine WL.p Q0 (Yl.build bt41 Q0 Q4) ?_
 refine WL.s (Yr.storeB hs Q0 Q0 Q0 Q5 Q3 Q0 (by exact szf41)) ?_
 clear hs; rintro _ w hs
 refine WL.next ?_
 refine WC.ret ?_
 refine fin1c rfl agg41 Q0 hs Q1 Q0 ?_
 refine Ret.mk hs ?_
 refine ⟨⟨s4⟩, rfl, ?_, ?_⟩
 · simp_all
 · exact (PCache.join _ (hs.only (D := [ow s4 F4]) Q2) ).fresh List.mem_cons_self

theorem c_impl_StoreEntry (c : PCache) (top : Str) (a : TAddr) (y : TResponse) (now : Int) (w : World) (h_c : Ph.ok w c) (h_top : Ph.ok w top) (h_a : Ph.ok w a) (h_y : Ph.ok w y) (h_now : Ph.ok w now) (hbc : c.lg.size ≤ 1048576) (hpy : y.policy.length ≤ 1048576) (hm_ : ∃ m, w.cell? ⟨0, 0, none⟩ = some (.int .i64 m)) : Calls Tryd.prog 21 [.agg #[Sl.v c.entries], S top, .agg #[S a.host, S a.path], .agg #[I y.status, I y.kind, S y.body, I y.age, Bo y.shares, S y.policy], I now].toArray w (Ret w (fun v w' => ∃ x : PCache, v = .agg (Ph.enc x).toArray ∧ x.lg = storeEntry c.lg top a y now ∧ Fresh w x w')) := by
 refine enterN 62 Tryd.func21 rfl rfl rfl ?_
 have hs := Sat.start w
 refine WC.seq ?_
 refine WL.r Q0 (Yr.box hs Q0 Q0) ?_
 clear hs; rintro _ w ⟨b1, rfl, hb, hs⟩; clear hb
 refine WL.r Q0 (Yr.box hs Q0 Q0) ?_
 clear hs; rintro _ w ⟨b2, rfl, hb, hs⟩; clear hb
 refine WL.r Q0 (Yr.box hs Q0 Q0) ?_
 clear hs; rintro _ w ⟨b3, rfl, hb, hs⟩; clear hb
 refine WL.r Q0 (Yr.alloc hs zt41) ?_
 clear hs; rintro _ w ⟨b4, rfl, hb, hs⟩; clear hb
 refine WL.next ?_
 refine WC.seq ?_
 refine WL.p Q0 (Yl.loadAB agg41 Q0 hs Q1 Q0 Q0) ?_
 refine WL.call hs Q0 (Yc.func Q0 fn71) (c_impl_copyCache _ _ (Ph.old h_c hs) Q10) ?_
 have hs0 := hs; clear hs; intro v w hb hR hs; clear hs
 obtain ⟨x5, rfl, hx5, hf5⟩ := hR
 obtain ⟨F5, hs⟩ := hf5.sat hs0 hb; clear hs0 hf5
 refine WL.r Q0 (Yr.alloc hs zt41) ?_
 clear hs; rintro _ w ⟨b6, rfl, hb, hs⟩; clear hb
 refine WL.s (Yr.storeB hs Q0 Q0 Q0 Q5 Q3 Q0 (by exact szf41)) ?_
 clear hs; rintro _ w hs
 refine WL.next ?_
 refine WC.seq ?_
 refine Qm ?_
 refine WL.p Q0 (Yl.loadAB agg43 Q0 hs Q1 Q0 Q0) ?_
 refine WL.p Q0 (Yl.loadAB agg45 Q0 hs Q1 Q0 Q0) ?_
 refine Qm ?_
 refine WL.p Q0 (Yl.fieldAddr fa45_3 Q0) ?_
 refine WL.p Q0 (Yl.loadB sca3 Q0 hs Q1 Q0) ?_
 refine WL.p Q0 (Yl.addw Q0 Q0) ?_
 refine WL.p Q0 (Yl.build bt99 Q0 Q4) ?_
 refine WL.r Q0 (Yr.alloc hs zt99) ?_
 clear hs; rintro _ w ⟨b7, rfl, hb, hs⟩; clear hb
 refine WL.s (Yr.storeB hs Q0 Q0 Q0 Q5 Q3 Q0 (by exact szf99)) ?_
 clear hs; rintro _ w hs
 refine WL.next ?_
 refine WC.seq' ?_
 refine WC.seq ?_
 refine WL.p Q0 (Yl.loadAB agg41 Q0 hs Q1 Q0 Q0) ?_
 refine Qm ?_
 refine WL.p Q0 (Yl.loadAB agg43 Q0 hs Q1 Q0 Q0) ?_
 refine WL.callp hs Q0 (Yc.func Q0 fn72) (c_impl_entryAt _ _ _ _ (Ph.old h_c hs)) ?_
 clear hs; intro w hs
 refine Qa ?_
 refine WL.next ?_
 refine WC.seq ?_
 refine Qm ?_
 refine WL.p Q0 (Yl.geq Q0 Q0) ?_
 refine WL.next ?_
 refine WC.condS Q0 (fun h1 => ?_) (fun h1 => ?_)
 ·
  replace h1 := of_decide_eq_true h1
  obtain ⟨j, d, hj, hd, hf⟩ := idxF_some (p := atF top a) (l := c.entries.l) (k := 0) (show ¬ idxF (atF top a) c.entries.l 0 < 0 from Int.not_lt.2 h1)
  rw [Nat.zero_add] at hj
  have hxe : x5.entries.l = c.entries.l := congrArg TCache.entries hx5
  have hdx : x5.entries.l[j]? = some d := by rw [hxe]; exact hd
  have hklt : j < x5.entries.l.length := (List.getElem?_eq_some_iff.1 hdx).1
  refine WC.region ?_
  refine WL.p Q0 (Yl.fieldAddr fa41_0 Q0) ?_
  refine WL.p Q0 (Yl.loadB sca39 Q0 hs Q1 Q0) ?_
  refine Qm ?_
  refine WL.p Q0 (Yl.loadAB agg99 Q0 hs Q1 Q0 Q0) ?_
  refine WL.p Q0 (Yl.indexAddr slt39 Q0 Q0 (hs.okow (x := x5) (F := F5) Q1).entries (by exact hj) (hdx)) ?_
  obtain ⟨K8, hfl8, hs⟩ := PCache.split (hs.sel (D := [ow x5 F5]) Q2)
  try simp only [List.cons_append, List.nil_append] at hs
  refine WL.s (Yr.storeE (u := (newEntryW top a y now)) (k := j) (hs.flat (x := ((newEntryW top a y now) : TEntry)) (by exact ⟨h_top, Flat.any h_a, Flat.any h_y, (show WfI _ from wfI_wrap _)⟩)) Q2 Q0 Q0 Q0 (by exact hklt) ⟨_, by rfl, by rfl⟩ szf99) ?_
  clear hs; rintro _ w ⟨F8, hs⟩
  obtain ⟨s8, hv8, hl8, hs⟩ := restore hs
  replace hs := PCache.join ⟨s8⟩ (hs.sel (D := [ow s8 F8]) Q2)
  try simp only [List.cons_append, List.nil_append] at hs
  have he8 : Ph.enc (⟨s8⟩ : PCache) = Ph.enc x5 := by show [s8.v] = [x5.entries.v]; rw [hv8]
  refine WL.nil ?_
  refine At.then_ ?_
  refine WC.seq' ?_
  refine WC.seq ?_
  refine WL.p Q0 (Yl.fieldAddr fa45_3 Q0) ?_
  refine WL.p Q0 (Yl.loadB sca3 Q0 hs Q1 Q0) ?_
  refine WL.p Q0 (Yl.eqi Q0 Q0) ?_
  refine Qm ?_
  refine WL.split (d := 44) Q0 (fun h2 => ?_) (fun h2 => ?_)
  ·
   replace h2 := of_decide_eq_true h2
   refine WL.skip (d := 44) Q0 Q0 Q0 Q0 ?_
   refine WL.skip (d := 44) Q0 Q0 Q0 Q0 ?_
   refine WL.skip (d := 44) Q0 Q0 Q0 Q0 ?_
   refine WL.p Q0 (Yl.pickT Q0 Q0) ?_
   refine Qm ?_
   refine WL.skip (d := 49) Q0 Q0 Q0 Q0 ?_
   refine WL.skip (d := 49) Q0 Q0 Q0 Q0 ?_
   refine WL.skip (d := 49) Q0 Q0 Q0 Q0 ?_
   refine WL.p Q0 (Yl.pickT Q0 Q0) ?_
   refine Qm ?_
   refine WL.skip (d := 54) Q0 Q0 Q0 Q0 ?_
   refine WL.skip (d := 54) Q0 Q0 Q0 Q0 ?_
   refine WL.skip (d := 54) Q0 Q0 Q0 Q0 ?_
   refine WL.p Q0 (Yl.pickT Q0 Q0) ?_
   refine WL.next ?_
   refine WC.condT Q0 ?_
   refine WC.seq ?_
   refine WL.p Q0 (Yl.loadAB agg41 Q0 hs Q1 Q0 Q0) ?_
   refine WL.call hs Q0 (Yc.func Q0 fn71) (c_impl_copyCache _ _ (Ph.old h_c hs) Q10) ?_
   have hs0 := hs; clear hs; intro v w hb hR hs; clear hs
   obtain ⟨x9, rfl, hx9, hf9⟩ := hR
   obtain ⟨F9, hs⟩ := hf9.sat hs0 hb; clear hs0 hf9
   refine WL.s (Yr.storeB hs Q0 Q0 Q0 Q5 Q3 Q0 (by exact szf41)) ?_
   clear hs; rintro _ w hs
   refine WL.next ?_
   refine WC.ret ?_
   refine At.thenret ?_
   refine fin1c rfl agg41 Q0 hs Q1 Q0 ?_
   refine Ret.mk hs ?_
   try rw [hpe] at h2
   have hb9 : storeIs c.lg top a y now = false := by
    clear hs
    cases h9 : storeIs c.lg top a y now with
    | false => rfl
    | true =>
     exfalso
     have h8 := storeIs_isv h9
     rw [storeIs_W] at h9
     try simp only [← inR_true] at *
     try simp only [← inR_false] at *
     simp_all [storeIs]
   exact ⟨x9, rfl, hx9.trans (storeEntry_no hb9).symm, hs.fresh Q1⟩
  ·
   replace h2 := of_decide_eq_false h2
   refine WL.run (d := 44) Q0 Q0 ?_
   refine Qm ?_
   refine WL.run (d := 44) Q0 Q0 ?_
   refine WL.callp hs Q0 (Yc.func Q0 fn73) (c_impl_InRange _ _ _ _) ?_
   clear hs; intro w hs
   refine WL.run (d := 44) Q0 Q0 ?_
   refine WL.p Q0 (Yl.not Q0) ?_
   refine WL.p Q0 (Yl.pickF Q0 Q0) ?_
   refine Qm ?_
   refine WL.split (d := 49) Q0 (fun h3 => ?_) (fun h3 => ?_)
   ·
    replace h3 := not_eq_true h3
    replace h3 := inR_false.1 h3
    refine WL.skip (d := 49) Q0 Q0 Q0 Q0 ?_
    refine WL.skip (d := 49) Q0 Q0 Q0 Q0 ?_
    refine WL.skip (d := 49) Q0 Q0 Q0 Q0 ?_
    refine WL.p Q0 (Yl.pickT Q0 Q0) ?_
    refine Qm ?_
    refine WL.skip (d := 54) Q0 Q0 Q0 Q0 ?_
    refine WL.skip (d := 54) Q0 Q0 Q0 Q0 ?_
    refine WL.skip (d := 54) Q0 Q0 Q0 Q0 ?_
    refine WL.p Q0 (Yl.pickT Q0 Q0) ?_
    refine WL.next ?_
    refine WC.condT Q0 ?_
    refine WC.seq ?_
    refine WL.p Q0 (Yl.loadAB agg41 Q0 hs Q1 Q0 Q0) ?_
    refine WL.call hs Q0 (Yc.func Q0 fn71) (c_impl_copyCache _ _ (Ph.old h_c hs) Q10) ?_
    have hs0 := hs; clear hs; intro v w hb hR hs; clear hs
    obtain ⟨x10, rfl, hx10, hf10⟩ := hR
    obtain ⟨F10, hs⟩ := hf10.sat hs0 hb; clear hs0 hf10
    refine WL.s (Yr.storeB hs Q0 Q0 Q0 Q5 Q3 Q0 (by exact szf41)) ?_
    clear hs; rintro _ w hs
    refine WL.next ?_
    refine WC.ret ?_
    refine At.thenret ?_
    refine fin1c rfl agg41 Q0 hs Q1 Q0 ?_
    refine Ret.mk hs ?_
    try rw [hpe] at h3
    have hb9 : storeIs c.lg top a y now = false := by
     clear hs
     cases h9 : storeIs c.lg top a y now with
     | false => rfl
     | true =>
      exfalso
      have h8 := storeIs_isv h9
      rw [storeIs_W] at h9
      try simp only [← inR_true] at *
      try simp only [← inR_false] at *
      simp_all [storeIs]
    exact ⟨x10, rfl, hx10.trans (storeEntry_no hb9).symm, hs.fresh Q1⟩
   ·
    replace h3 := not_eq_false h3
    replace h3 := inR_true.1 h3
    refine WL.run (d := 49) Q0 Q0 ?_
    refine WL.p Q0 (Yl.loadAB agg41 Q0 hs Q1 Q0 Q0) ?_
    refine WL.run (d := 49) Q0 Q0 ?_
    refine WL.callp hs Q0 (Yc.func Q0 fn27) (c_impl_IsCache _ _ (Ph.old h_c hs) (by exact cache_pol hbc) (by first | assumption | exact Sat.cellm hs (by assumption))) ?_
    clear hs; intro w hs
    refine WL.run (d := 49) Q0 Q0 ?_
    refine WL.p Q0 (Yl.not Q0) ?_
    refine WL.p Q0 (Yl.pickF Q0 Q0) ?_
    refine Qm ?_
    refine WL.split (d := 54) Q0 (fun h4 => ?_) (fun h4 => ?_)
    ·
     replace h4 := not_eq_true h4
     refine WL.skip (d := 54) Q0 Q0 Q0 Q0 ?_
     refine WL.skip (d := 54) Q0 Q0 Q0 Q0 ?_
     refine WL.skip (d := 54) Q0 Q0 Q0 Q0 ?_
     refine WL.p Q0 (Yl.pickT Q0 Q0) ?_
     refine WL.next ?_
     refine WC.condT Q0 ?_
     refine WC.seq ?_
     refine WL.p Q0 (Yl.loadAB agg41 Q0 hs Q1 Q0 Q0) ?_
     refine WL.call hs Q0 (Yc.func Q0 fn71) (c_impl_copyCache _ _ (Ph.old h_c hs) Q10) ?_
     have hs0 := hs; clear hs; intro v w hb hR hs; clear hs
     obtain ⟨x11, rfl, hx11, hf11⟩ := hR
     obtain ⟨F11, hs⟩ := hf11.sat hs0 hb; clear hs0 hf11
     refine WL.s (Yr.storeB hs Q0 Q0 Q0 Q5 Q3 Q0 (by exact szf41)) ?_
     clear hs; rintro _ w hs
     refine WL.next ?_
     refine WC.ret ?_
     refine At.thenret ?_
     refine fin1c rfl agg41 Q0 hs Q1 Q0 ?_
     refine Ret.mk hs ?_
     try rw [hpe] at h4
     have hb9 : storeIs c.lg top a y now = false := by
      clear hs
      cases h9 : storeIs c.lg top a y now with
      | false => rfl
      | true =>
       exfalso
       have h8 := storeIs_isv h9
       rw [storeIs_W] at h9
       try simp only [← inR_true] at *
       try simp only [← inR_false] at *
       simp_all [storeIs]
     exact ⟨x11, rfl, hx11.trans (storeEntry_no hb9).symm, hs.fresh Q1⟩
    ·
     replace h4 := not_eq_false h4
     refine WL.run (d := 54) Q0 Q0 ?_
     refine WL.p Q0 (Yl.loadAB agg41 Q0 hs Q1 Q0 Q0) ?_
     refine WL.run (d := 54) Q0 Q0 ?_
     have hpe : PCache.lg (⟨s8⟩ : PCache) = putEntry c.lg top a (newEntryW top a y now) := by
      rw [putEntry_set (c := c.lg) hj]
      simp only [PCache.lg, hl8, hxe]
     refine WL.callp hs Q0 (Yc.func Q0 fn27) (calls_conv (congrArg (fun z => ([z] : List Value).toArray) (show (.agg #[Sl.v (⟨s8⟩ : PCache).entries] : Value) = .agg #[Sl.v x5.entries] from congrArg (fun l => Value.agg l.toArray) he8)) (c_impl_IsCache (⟨s8⟩ : PCache) _ (hs.okow (x := (⟨s8⟩ : PCache)) (F := F8) Q1) (by show ∀ e ∈ (PCache.lg _).entries, _; rw [hpe]; exact put_pol hbc hpy) (by first | assumption | exact Sat.cellm hs (by assumption)))) ?_
     clear hs; intro w hs
     refine WL.run (d := 54) Q0 Q0 ?_
     refine WL.p Q0 (Yl.not Q0) ?_
     refine WL.p Q0 (Yl.pickF Q0 Q0) ?_
     refine WL.next ?_
     refine WC.condS Q0 (fun h5 => ?_) (fun h5 => ?_)
     ·
      replace h5 := not_eq_true h5
      refine WC.seq ?_
      refine WL.p Q0 (Yl.loadAB agg41 Q0 hs Q1 Q0 Q0) ?_
      refine WL.call hs Q0 (Yc.func Q0 fn71) (c_impl_copyCache _ _ (Ph.old h_c hs) Q10) ?_
      have hs0 := hs; clear hs; intro v w hb hR hs; clear hs
      obtain ⟨x12, rfl, hx12, hf12⟩ := hR
      obtain ⟨F12, hs⟩ := hf12.sat hs0 hb; clear hs0 hf12
      refine WL.s (Yr.storeB hs Q0 Q0 Q0 Q5 Q3 Q0 (by exact szf41)) ?_
      clear hs; rintro _ w hs
      refine WL.next ?_
      refine WC.ret ?_
      refine At.thenret ?_
      refine fin1c rfl agg41 Q0 hs Q1 Q0 ?_
      refine Ret.mk hs ?_
      try rw [hpe] at h5
      have hb9 : storeIs c.lg top a y now = false := by
       clear hs
       cases h9 : storeIs c.lg top a y now with
       | false => rfl
       | true =>
        exfalso
        have h8 := storeIs_isv h9
        rw [storeIs_W] at h9
        try simp only [← inR_true] at *
        try simp only [← inR_false] at *
        simp_all [storeIs]
      exact ⟨x12, rfl, hx12.trans (storeEntry_no hb9).symm, hs.fresh Q1⟩
     ·
      replace h5 := not_eq_false h5
      refine WC.skipn ?_
      refine WC.seq ?_
      refine WL.p Q0 (Yl.loadAB agg41 Q0 hs Q1 Q0 Q0) ?_
      refine WL.s (Yr.storeB hs Q0 Q0 Q0 Q5 Q3 Q0 (by exact szf41)) ?_
      clear hs; rintro _ w hs
      refine WL.next ?_
      refine WC.ret ?_
      refine fin1c rfl agg41 Q0 hs Q1 Q0 ?_
      refine Ret.mk hs ?_
      try rw [hpe] at h5
      have hb9 : storeIs c.lg top a y now = true := by
       clear hs
       try simp only [← inR_true] at *
       try simp only [← inR_false] at *
       rw [storeIs_W]
       simp_all [storeIs]
      exact ⟨(⟨s8⟩ : PCache), by rw [he8]; try rfl, hpe.trans (storeEntry_yesW hb9).symm, hs.fresh Q1⟩
 ·
  replace h1 := of_decide_eq_false h1
  refine WC.region ?_
  refine WL.p Q0 (Yl.fieldAddr fa41_0 Q0) ?_
  refine WL.p Q0 (Yl.loadB sca39 Q0 hs Q1 Q0) ?_
  refine WL.p Q0 (Yl.loadAB agg99 Q0 hs Q1 Q0 Q0) ?_
  refine WL.r Q0 (Yr.buildSlice hs sll39 Q0 Q0 Q0 Q4 Q0) ?_
  clear hs; rintro _ w ⟨b13, rfl, hb, hs⟩; clear hb
  obtain ⟨K14_0, hfl14, hs⟩ := PCache.split (hs.sel (D := [ow x5 F5]) Q2)
  try simp only [List.cons_append, List.nil_append] at hs
  refine WL.r Q0 (Yr.append (s := x5.entries) (F := K14_0) hs elt39 Q2 Q0 Q0 rfl (xs := [(newEntryW top a y now)]) (hs.box_cells Q1) (by intro x hx; obtain rfl := List.mem_singleton.1 hx; exact ⟨h_top, Flat.any h_a, Flat.any h_y, (show WfI _ from wfI_wrap _)⟩) (by have hxe9 : x5.entries.l = c.entries.l := congrArg TCache.entries hx5; rw [hxe9]; simp only [TCache.size, lsz] at hbc; simp; unfold maxLen; omega) (by have hxe9 : x5.entries.l = c.entries.l := congrArg TCache.entries hx5; rw [hxe9]; simp only [TCache.size, lsz] at hbc; simp; omega)) ?_
  clear hs; rintro _ w ⟨s15, F15, rfl, hl15, hs⟩
  refine WL.p Q0 (Yl.fieldAddr fa41_0 Q0) ?_
  refine WL.s (Yr.storeB hs Q0 Q0 Q0 Q5 Q3 Q0 (by exact szf39)) ?_
  clear hs; rintro _ w hs
  refine WL.nil ?_
  refine At.then_ ?_
  refine WC.seq' ?_
  refine WC.seq ?_
  refine WL.p Q0 (Yl.fieldAddr fa45_3 Q0) ?_
  refine WL.p Q0 (Yl.loadB sca3 Q0 hs Q1 Q0) ?_
  refine WL.p Q0 (Yl.eqi Q0 Q0) ?_
  refine Qm ?_
  refine WL.split (d := 44) Q0 (fun h2 => ?_) (fun h2 => ?_)
  ·
   replace h2 := of_decide_eq_true h2
   refine WL.skip (d := 44) Q0 Q0 Q0 Q0 ?_
   refine WL.skip (d := 44) Q0 Q0 Q0 Q0 ?_
   refine WL.skip (d := 44) Q0 Q0 Q0 Q0 ?_
   refine WL.p Q0 (Yl.pickT Q0 Q0) ?_
   refine Qm ?_
   refine WL.skip (d := 49) Q0 Q0 Q0 Q0 ?_
   refine WL.skip (d := 49) Q0 Q0 Q0 Q0 ?_
   refine WL.skip (d := 49) Q0 Q0 Q0 Q0 ?_
   refine WL.p Q0 (Yl.pickT Q0 Q0) ?_
   refine Qm ?_
   refine WL.skip (d := 54) Q0 Q0 Q0 Q0 ?_
   refine WL.skip (d := 54) Q0 Q0 Q0 Q0 ?_
   refine WL.skip (d := 54) Q0 Q0 Q0 Q0 ?_
   refine WL.p Q0 (Yl.pickT Q0 Q0) ?_
   refine WL.next ?_
   refine WC.condT Q0 ?_
   refine WC.seq ?_
   refine WL.p Q0 (Yl.loadAB agg41 Q0 hs Q1 Q0 Q0) ?_
   refine WL.call hs Q0 (Yc.func Q0 fn71) (c_impl_copyCache _ _ (Ph.old h_c hs) Q10) ?_
   have hs0 := hs; clear hs; intro v w hb hR hs; clear hs
   obtain ⟨x16, rfl, hx16, hf16⟩ := hR
   obtain ⟨F16, hs⟩ := hf16.sat hs0 hb; clear hs0 hf16
   refine WL.s (Yr.storeB hs Q0 Q0 Q0 Q5 Q3 Q0 (by exact szf41)) ?_
   clear hs; rintro _ w hs
   refine WL.next ?_
   refine WC.ret ?_
   refine At.thenret ?_
   refine fin1c rfl agg41 Q0 hs Q1 Q0 ?_
   refine Ret.mk hs ?_
   try rw [hpe] at h2
   have hb9 : storeIs c.lg top a y now = false := by
    clear hs
    cases h9 : storeIs c.lg top a y now with
    | false => rfl
    | true =>
     exfalso
     have h8 := storeIs_isv h9
     rw [storeIs_W] at h9
     try simp only [← inR_true] at *
     try simp only [← inR_false] at *
     simp_all [storeIs]
   exact ⟨x16, rfl, hx16.trans (storeEntry_no hb9).symm, hs.fresh Q1⟩
  ·
   replace h2 := of_decide_eq_false h2
   refine WL.run (d := 44) Q0 Q0 ?_
   refine Qm ?_
   refine WL.run (d := 44) Q0 Q0 ?_
   refine WL.callp hs Q0 (Yc.func Q0 fn73) (c_impl_InRange _ _ _ _) ?_
   clear hs; intro w hs
   refine WL.run (d := 44) Q0 Q0 ?_
   refine WL.p Q0 (Yl.not Q0) ?_
   refine WL.p Q0 (Yl.pickF Q0 Q0) ?_
   refine Qm ?_
   refine WL.split (d := 49) Q0 (fun h3 => ?_) (fun h3 => ?_)
   ·
    replace h3 := not_eq_true h3
    replace h3 := inR_false.1 h3
    refine WL.skip (d := 49) Q0 Q0 Q0 Q0 ?_
    refine WL.skip (d := 49) Q0 Q0 Q0 Q0 ?_
    refine WL.skip (d := 49) Q0 Q0 Q0 Q0 ?_
    refine WL.p Q0 (Yl.pickT Q0 Q0) ?_
    refine Qm ?_
    refine WL.skip (d := 54) Q0 Q0 Q0 Q0 ?_
    refine WL.skip (d := 54) Q0 Q0 Q0 Q0 ?_
    refine WL.skip (d := 54) Q0 Q0 Q0 Q0 ?_
    refine WL.p Q0 (Yl.pickT Q0 Q0) ?_
    refine WL.next ?_
    refine WC.condT Q0 ?_
    refine WC.seq ?_
    refine WL.p Q0 (Yl.loadAB agg41 Q0 hs Q1 Q0 Q0) ?_
    refine WL.call hs Q0 (Yc.func Q0 fn71) (c_impl_copyCache _ _ (Ph.old h_c hs) Q10) ?_
    have hs0 := hs; clear hs; intro v w hb hR hs; clear hs
    obtain ⟨x17, rfl, hx17, hf17⟩ := hR
    obtain ⟨F17, hs⟩ := hf17.sat hs0 hb; clear hs0 hf17
    refine WL.s (Yr.storeB hs Q0 Q0 Q0 Q5 Q3 Q0 (by exact szf41)) ?_
    clear hs; rintro _ w hs
    refine WL.next ?_
    refine WC.ret ?_
    refine At.thenret ?_
    refine fin1c rfl agg41 Q0 hs Q1 Q0 ?_
    refine Ret.mk hs ?_
    try rw [hpe] at h3
    have hb9 : storeIs c.lg top a y now = false := by
     clear hs
     cases h9 : storeIs c.lg top a y now with
     | false => rfl
     | true =>
      exfalso
      have h8 := storeIs_isv h9
      rw [storeIs_W] at h9
      try simp only [← inR_true] at *
      try simp only [← inR_false] at *
      simp_all [storeIs]
    exact ⟨x17, rfl, hx17.trans (storeEntry_no hb9).symm, hs.fresh Q1⟩
   ·
    replace h3 := not_eq_false h3
    replace h3 := inR_true.1 h3
    refine WL.run (d := 49) Q0 Q0 ?_
    refine WL.p Q0 (Yl.loadAB agg41 Q0 hs Q1 Q0 Q0) ?_
    refine WL.run (d := 49) Q0 Q0 ?_
    refine WL.callp hs Q0 (Yc.func Q0 fn27) (c_impl_IsCache _ _ (Ph.old h_c hs) (by exact cache_pol hbc) (by first | assumption | exact Sat.cellm hs (by assumption))) ?_
    clear hs; intro w hs
    refine WL.run (d := 49) Q0 Q0 ?_
    refine WL.p Q0 (Yl.not Q0) ?_
    refine WL.p Q0 (Yl.pickF Q0 Q0) ?_
    refine Qm ?_
    refine WL.split (d := 54) Q0 (fun h4 => ?_) (fun h4 => ?_)
    ·
     replace h4 := not_eq_true h4
     refine WL.skip (d := 54) Q0 Q0 Q0 Q0 ?_
     refine WL.skip (d := 54) Q0 Q0 Q0 Q0 ?_
     refine WL.skip (d := 54) Q0 Q0 Q0 Q0 ?_
     refine WL.p Q0 (Yl.pickT Q0 Q0) ?_
     refine WL.next ?_
     refine WC.condT Q0 ?_
     refine WC.seq ?_
     refine WL.p Q0 (Yl.loadAB agg41 Q0 hs Q1 Q0 Q0) ?_
     refine WL.call hs Q0 (Yc.func Q0 fn71) (c_impl_copyCache _ _ (Ph.old h_c hs) Q10) ?_
     have hs0 := hs; clear hs; intro v w hb hR hs; clear hs
     obtain ⟨x18, rfl, hx18, hf18⟩ := hR
     obtain ⟨F18, hs⟩ := hf18.sat hs0 hb; clear hs0 hf18
     refine WL.s (Yr.storeB hs Q0 Q0 Q0 Q5 Q3 Q0 (by exact szf41)) ?_
     clear hs; rintro _ w hs
     refine WL.next ?_
     refine WC.ret ?_
     refine At.thenret ?_
     refine fin1c rfl agg41 Q0 hs Q1 Q0 ?_
     refine Ret.mk hs ?_
     try rw [hpe] at h4
     have hb9 : storeIs c.lg top a y now = false := by
      clear hs
      cases h9 : storeIs c.lg top a y now with
      | false => rfl
      | true =>
       exfalso
       have h8 := storeIs_isv h9
       rw [storeIs_W] at h9
       try simp only [← inR_true] at *
       try simp only [← inR_false] at *
       simp_all [storeIs]
     exact ⟨x18, rfl, hx18.trans (storeEntry_no hb9).symm, hs.fresh Q1⟩
    ·
     replace h4 := not_eq_false h4
     refine WL.run (d := 54) Q0 Q0 ?_
     refine WL.p Q0 (Yl.loadAB agg41 Q0 hs Q1 Q0 Q0) ?_
     refine WL.run (d := 54) Q0 Q0 ?_
     have hxe : x5.entries.l = c.entries.l := congrArg TCache.entries hx5
     have hpe : PCache.lg ⟨s15⟩ = putEntry c.lg top a (newEntryW top a y now) := by
      rw [putEntry_app (c := c.lg) (Int.not_le.1 h1)]
      simp only [PCache.lg, hl15, hxe]
     refine WL.callp hs Q0 (Yc.func Q0 fn27) (c_impl_IsCache (⟨s15⟩ : PCache) _ ⟨(hs.okow (x := s15) (F := F15) Q1)⟩ (by show ∀ e ∈ (PCache.lg _).entries, _; rw [hpe]; exact put_pol hbc hpy) (by first | assumption | exact Sat.cellm hs (by assumption))) ?_
     clear hs; intro w hs
     refine WL.run (d := 54) Q0 Q0 ?_
     refine WL.p Q0 (Yl.not Q0) ?_
     refine WL.p Q0 (Yl.pickF Q0 Q0) ?_
     refine WL.next ?_
     refine WC.condS Q0 (fun h5 => ?_) (fun h5 => ?_)
     ·
      replace h5 := not_eq_true h5
      refine WC.seq ?_
      refine WL.p Q0 (Yl.loadAB agg41 Q0 hs Q1 Q0 Q0) ?_
      refine WL.call hs Q0 (Yc.func Q0 fn71) (c_impl_copyCache _ _ (Ph.old h_c hs) Q10) ?_
      have hs0 := hs; clear hs; intro v w hb hR hs; clear hs
      obtain ⟨x19, rfl, hx19, hf19⟩ := hR
      obtain ⟨F19, hs⟩ := hf19.sat hs0 hb; clear hs0 hf19
      refine WL.s (Yr.storeB hs Q0 Q0 Q0 Q5 Q3 Q0 (by exact szf41)) ?_
      clear hs; rintro _ w hs
      refine WL.next ?_
      refine WC.ret ?_
      refine At.thenret ?_
      refine fin1c rfl agg41 Q0 hs Q1 Q0 ?_
      refine Ret.mk hs ?_
      try rw [hpe] at h5
      have hb9 : storeIs c.lg top a y now = false := by
       clear hs
       cases h9 : storeIs c.lg top a y now with
       | false => rfl
       | true =>
        exfalso
        have h8 := storeIs_isv h9
        rw [storeIs_W] at h9
        try simp only [← inR_true] at *
        try simp only [← inR_false] at *
        simp_all [storeIs]
      exact ⟨x19, rfl, hx19.trans (storeEntry_no hb9).symm, hs.fresh Q1⟩
     ·
      replace h5 := not_eq_false h5
      refine WC.skipn ?_
      refine WC.seq ?_
      refine WL.p Q0 (Yl.loadAB agg41 Q0 hs Q1 Q0 Q0) ?_
      refine WL.s (Yr.storeB hs Q0 Q0 Q0 Q5 Q3 Q0 (by exact szf41)) ?_
      clear hs; rintro _ w hs
      refine WL.next ?_
      refine WC.ret ?_
      refine fin1c rfl agg41 Q0 hs Q1 Q0 ?_
      refine Ret.mk hs ?_
      try rw [hpe] at h5
      have hb9 : storeIs c.lg top a y now = true := by
       clear hs
       try simp only [← inR_true] at *
       try simp only [← inR_false] at *
       rw [storeIs_W]
       simp_all [storeIs]
      exact ⟨⟨s15⟩, rfl, hpe.trans (storeEntry_yesW hb9).symm, (PCache.join ⟨s15⟩ (hs.only (D := [ow s15 F15]) Q2)).fresh List.mem_cons_self⟩

theorem c_slices_Equal___impl_Entry_impl_Entry_ (s1 : (Sl TEntry)) (s2 : (Sl TEntry)) (w : World) (h_s1 : Ph.ok w s1) (h_s2 : Ph.ok w s2)  : Calls Tryd.prog 74 [Sl.v s1, Sl.v s2].toArray w (RetP w (Bo (decide (s1.l = s2.l)))) := by
 have hw := h_s1.lt
 refine enterN 26 Tryd.func74 rfl rfl rfl ?_
 have hs := Sat.start w
 refine WC.seq ?_
 refine Qa ?_
 refine WL.next ?_
 refine WC.seq' ?_
 refine WC.seq ?_
 refine Qm ?_
 refine WL.p Q0 (Yl.len_sl slu39 Q0) ?_
 refine Qm ?_
 refine WL.p Q0 (Yl.len_sl slu39 Q0) ?_
 refine WL.p Q0 (Yl.nei Q0 Q0) ?_
 refine WL.next ?_
 refine WC.condS Q0 (fun h1 => ?_) (fun h1 => ?_)
 ·
  replace h1 := not_eq_true h1
  replace h1 := of_decide_eq_false h1
  refine WC.seq ?_
  refine Qa ?_
  refine WL.next ?_
  refine WC.ret ?_
  refine At.thenret ?_
  refine fin1' rfl Q0 ?_
  refine RetP.mk hs ?_
  have hne : ¬ s1.l = s2.l := by
   intro h
   have h2 := congrArg List.length h
   try simp at h2
   omega
  simp only [hne, decide_false]
 ·
  replace h1 := not_eq_false h1
  replace h1 := of_decide_eq_true h1
  refine WC.skipn ?_
  refine WC.seq' ?_
  refine WC.seq ?_
  refine Qm ?_
  refine WL.p Q0 (Yl.len_sl slu39 Q0) ?_
  refine Qm ?_
  refine WL.next ?_
  refine WC.block ?_
  refine WC.loopC (ι := Nat) (fun k => s1.l.length - k) (fun k => [(13, I (k : Int))]) (fun _ => []) (fun k => decide (s1.l = s2.l) = decide (s1.l.drop k = s2.l.drop k)) [(0, _), (1, _), (10, _), (12, _)] 0 (hs) ⟨by rfl, by rfl, by rfl, by rfl, trivial⟩ ⟨by rfl, trivial⟩ ?_ ?_
  ·
   simp
  clear hs; rintro k w hJ hs
  simp only [List.nil_append] at hs
  refine WC.seq ?_
  refine WL.p Q0 (Yl.lss Q0 Q0) ?_
  refine WL.next ?_
  refine WC.seq' ?_
  refine WC.condS Q0 (fun h2 => ?_) (fun h2 => ?_)
  ·
   replace h2 := of_decide_eq_true h2
   obtain ⟨d, hd⟩ := exists_get (l := s1.l) (k := k) Q7
   obtain ⟨d2, hd2⟩ := exists_get (l := s2.l) (k := k) Q7
   rw [drop_cons hd, drop_cons hd2] at hJ
   refine WC.skipn ?_
   refine WC.seq' ?_
   refine WC.block ?_
   refine WC.seq ?_
   refine Qm ?_
   refine Qa ?_
   refine WL.next ?_
   refine WC.quietn mixed Q6 hs ?_
   refine WQ.p Q0 (fun w hs => Yl.move Q0) ?_
   refine WQ.p Q0 (fun w hs => Yl.move Q0) ?_
   refine WQ.p Q0 (fun w hs => Yl.indexAddr slt39 Q0 Q0 (Ph.old h_s1 hs) Q0 (hd)) ?_
   refine WQ.p Q0 (fun w hs => Yl.loadA agg99 Q0 (Sl.Ok.at_ (Ph.old h_s1 hs) (by assumption)).2 Q0) ?_
   refine WQ.p Q0 (fun w hs => Yl.move Q0) ?_
   refine WQ.p Q0 (fun w hs => Yl.move Q0) ?_
   refine WQ.p Q0 (fun w hs => Yl.indexAddr slt39 Q0 Q0 (Ph.old h_s2 hs) Q0 (hd2)) ?_
   refine WQ.p Q0 (fun w hs => Yl.loadA agg99 Q0 (Sl.Ok.at_ (Ph.old h_s2 hs) (by assumption)).2 Q0) ?_
   refine WQ.p Q0 (fun w hs => Yl.net eqt99 Q0 Q0) ?_
   refine WQ.next ?_
   clear hs; intro w hs
   refine WC.condS Q0 (fun h3 => ?_) (fun h3 => ?_)
   ·
    replace h3 := not_eq_true h3
    replace h3 := of_decide_eq_false h3
    refine WC.seq ?_
    refine Qa ?_
    refine WL.next ?_
    refine WC.ret ?_
    refine At.blockret ?_
    refine At.thenret ?_
    refine At.thenret ?_
    refine At.blockret ?_
    refine At.thenret ?_
    refine fin1' rfl Q0 ?_
    refine RetP.mk hs ?_
    rw [hJ]; simp_all
   ·
    replace h3 := not_eq_false h3
    replace h3 := of_decide_eq_true h3
    refine WC.skip ?_
    refine At.blocknormal ?_
    refine At.then_ ?_
    refine WC.region ?_
    refine WL.p Q0 (Yl.add Q0 Q0 Q7) ?_
    refine Qm ?_
    refine WL.nil ?_
    refine At.roundC (k + 1) (hs.only Q2) ⟨by rfl, by rfl, by rfl, by rfl, trivial⟩ ⟨by rfl, trivial⟩ ?_ ?_
    ·
     omega
    ·
     rw [hJ]; simp_all
  ·
   replace h2 := of_decide_eq_false h2
   rw [drop_out (l := s1.l) Q7, drop_out (l := s2.l) Q7] at hJ
   refine WC.exit ?_
   refine At.thenexit ?_
   refine At.thenexit ?_
   refine At.blockexit ?_
   refine At.then_ ?_
   refine WC.seq ?_
   refine Qa ?_
   refine WL.next ?_
   refine WC.ret ?_
   refine fin1' rfl Q0 ?_
   refine RetP.mk hs ?_
   rw [hJ]; simp_all

theorem c_impl_EqualCaches (a : PCache) (b : PCache) (w : World) (h_a : Ph.ok w a) (h_b : Ph.ok w b)  : Calls Tryd.prog 22 [.agg #[Sl.v a.entries], .agg #[Sl.v b.entries]].toArray w (RetP w (Bo (decide (a.lg = b.lg)))) := by
 refine enterN 10 Tryd.func22 rfl rfl rfl ?_
 have hs := Sat.start w
 refine WC.seq ?_
 refine WL.r Q0 (Yr.box hs Q0 Q0) ?_
 clear hs; rintro _ w ⟨b1, rfl, hb, hs⟩; clear hb
 refine WL.r Q0 (Yr.box hs Q0 Q0) ?_
 clear hs; rintro _ w ⟨b2, rfl, hb, hs⟩; clear hb
 refine Qa ?_
 refine WL.next ?_
 refine WC.seq ?_
 refine WL.p Q0 (Yl.fieldAddr fa41_0 Q0) ?_
 refine WL.p Q0 (Yl.loadB sca39 Q0 hs Q1 Q0) ?_
 refine WL.p Q0 (Yl.fieldAddr fa41_0 Q0) ?_
 refine WL.p Q0 (Yl.loadB sca39 Q0 hs Q1 Q0) ?_
 refine WL.callp hs Q0 (Yc.func Q0 fn74) (c_slices_Equal___impl_Entry_impl_Entry_ _ _ _ (Ph.old h_a.entries hs) (Ph.old h_b.entries hs)) ?_
 clear hs; intro w hs
 refine Qa ?_
 refine WL.next ?_
 refine WC.ret ?_
 refine fin1' rfl Q0 ?_
 refine RetP.mk hs ?_
 simp_all [TCache.ext_iff]

theorem c_impl_NotFound  (w : World)   : Calls Tryd.prog 48 [].toArray w (RetP w (.agg (Ph.enc notFound).toArray)) := by
 refine enterN 2 Tryd.func48 rfl rfl rfl ?_
 have hs := Sat.start w
 refine WC.seq ?_
 refine WL.r Q0 (Yr.alloc hs zt45) ?_
 clear hs; rintro _ w ⟨b1, rfl, hb, hs⟩; clear hb
 refine WL.next ?_
 refine WC.seq ?_
 refine WL.p Q0 (Yl.build bt45 Q0 Q4) ?_
 refine WL.s (Yr.storeB hs Q0 Q0 Q0 Q5 Q3 Q0 (by exact szf45)) ?_
 clear hs; rintro _ w hs
 refine WL.next ?_
 refine WC.ret ?_
 refine fin1c rfl agg45 Q0 hs Q1 Q0 ?_
 refine RetP.mk hs ?_
 rfl

theorem c_impl_LookUp_1 (e : TEntry) (top : Str) (b1 : Nat) (a : TAddr) (b2 : Nat) (now : Int) (b3 : Nat) (w : World)   (hc1 : CellsAt w b1 0 [S top]) (hc2 : CellsAt w b2 0 (Ph.enc a)) (hc3 : CellsAt w b3 0 [I now]) : Calls Tryd.prog 80 [.agg #[S e.top, S e.to.host, S e.to.path, I e.response.status, I e.response.kind, S e.response.body, I e.response.age, Bo e.response.shares, S e.response.policy, I e.until_], bp b1 0, bp b2 0, bp b3 0].toArray w (RetP w (Bo (hit top a now e))) := by
 refine enterN 22 Tryd.func80 rfl rfl rfl ?_
 have hs := Sat.start w
 refine WC.seq ?_
 refine WL.r Q0 (Yr.box hs Q0 Q0) ?_
 clear hs; rintro _ w ⟨b1, rfl, hb, hs⟩; clear hb
 refine Qa ?_
 refine WL.next ?_
 refine WC.seq ?_
 refine WL.p Q0 (Yl.fieldAddr fa99_0 Q0) ?_
 refine WL.p Q0 (Yl.loadB sca9 Q0 hs Q1 Q0) ?_
 refine WL.p Q0 (Yl.loadC0 sca9 Q0 (hc1.ext hs.below) Q0) ?_
 refine WL.p Q0 (Yl.eqs Q0 Q0) ?_
 refine Qm ?_
 refine WL.split (d := 10) Q0 (fun h1 => ?_) (fun h1 => ?_)
 ·
  replace h1 := of_decide_eq_true h1
  refine WL.run (d := 10) Q0 Q0 ?_
  refine WL.p Q0 (Yl.fieldAddr fa99_1 Q0) ?_
  refine WL.run (d := 10) Q0 Q0 ?_
  refine WL.p Q0 (Yl.loadAB agg43 Q0 hs Q1 Q0 Q0) ?_
  refine WL.run (d := 10) Q0 Q0 ?_
  refine WL.p Q0 (Yl.loadA agg43 Q0 (hc2.ext hs.below) Q0) ?_
  refine WL.run (d := 10) Q0 Q0 ?_
  refine WL.p Q0 (Yl.eqt eqt43 Q0 Q0) ?_
  refine WL.p Q0 (Yl.pickT Q0 Q0) ?_
  refine Qm ?_
  refine WL.split (d := 16) Q0 (fun h2 => ?_) (fun h2 => ?_)
  ·
   replace h2 := of_decide_eq_true h2
   refine WL.run (d := 16) Q0 Q0 ?_
   refine WL.p Q0 (Yl.fieldAddr fa99_3 Q0) ?_
   refine WL.run (d := 16) Q0 Q0 ?_
   refine WL.p Q0 (Yl.loadB sca3 Q0 hs Q1 Q0) ?_
   refine WL.run (d := 16) Q0 Q0 ?_
   refine WL.p Q0 (Yl.loadC0 sca3 Q0 (hc3.ext hs.below) Q0) ?_
   refine WL.run (d := 16) Q0 Q0 ?_
   refine WL.p Q0 (Yl.geq Q0 Q0) ?_
   refine WL.p Q0 (Yl.pickT Q0 Q0) ?_
   refine Qa ?_
   refine WL.next ?_
   refine WC.ret ?_
   refine fin1' rfl Q0 ?_
   refine RetP.mk hs ?_
   simp_all [hit]
  ·
   replace h2 := of_decide_eq_false h2
   refine WL.skip (d := 16) Q0 Q0 Q0 Q0 ?_
   refine WL.skip (d := 16) Q0 Q0 Q0 Q0 ?_
   refine WL.skip (d := 16) Q0 Q0 Q0 Q0 ?_
   refine WL.skip (d := 16) Q0 Q0 Q0 Q0 ?_
   refine WL.p Q0 (Yl.pickF Q0 Q0) ?_
   refine Qa ?_
   refine WL.next ?_
   refine WC.ret ?_
   refine fin1' rfl Q0 ?_
   refine RetP.mk hs ?_
   simp_all [hit]
 ·
  replace h1 := of_decide_eq_false h1
  refine WL.skip (d := 10) Q0 Q0 Q0 Q0 ?_
  refine WL.skip (d := 10) Q0 Q0 Q0 Q0 ?_
  refine WL.skip (d := 10) Q0 Q0 Q0 Q0 ?_
  refine WL.skip (d := 10) Q0 Q0 Q0 Q0 ?_
  refine WL.p Q0 (Yl.pickF Q0 Q0) ?_
  refine Qm ?_
  refine WL.skip (d := 16) Q0 Q0 Q0 Q0 ?_
  refine WL.skip (d := 16) Q0 Q0 Q0 Q0 ?_
  refine WL.skip (d := 16) Q0 Q0 Q0 Q0 ?_
  refine WL.skip (d := 16) Q0 Q0 Q0 Q0 ?_
  refine WL.p Q0 (Yl.pickF Q0 Q0) ?_
  refine Qa ?_
  refine WL.next ?_
  refine WC.ret ?_
  refine fin1' rfl Q0 ?_
  refine RetP.mk hs ?_
  simp_all [hit]

theorem c_impl_LookUp (c : PCache) (top : Str) (a : TAddr) (now : Int) (w : World) (h_c : Ph.ok w c)  : Calls Tryd.prog 24 [.agg #[Sl.v c.entries], S top, .agg #[S a.host, S a.path], I now].toArray w (RetP w (.tuple #[.agg (Ph.enc (lookIn top a now c.lg.entries).1).toArray, Bo (lookIn top a now c.lg.entries).2])) := by
 have hw := h_c.entries.lt
 refine enterN 24 Tryd.func24 rfl rfl rfl ?_
 have hs := Sat.start w
 refine WC.seq ?_
 refine WL.r Q0 (Yr.box hs Q0 Q0) ?_
 clear hs; rintro _ w ⟨b1, rfl, hb, hs⟩; clear hb
 refine WL.r Q0 (Yr.box hs Q0 Q0) ?_
 clear hs; rintro _ w ⟨b2, rfl, hb, hs⟩; clear hb
 refine WL.r Q0 (Yr.box hs Q0 Q0) ?_
 clear hs; rintro _ w ⟨b3, rfl, hb, hs⟩; clear hb
 refine WL.r Q0 (Yr.box hs Q0 Q0) ?_
 clear hs; rintro _ w ⟨b4, rfl, hb, hs⟩; clear hb
 refine WL.r Q0 (Yr.alloc hs zt45) ?_
 clear hs; rintro _ w ⟨b5, rfl, hb, hs⟩; clear hb
 refine Qa ?_
 refine WL.next ?_
 refine WC.seq ?_
 refine WL.p Q0 (Yl.fieldAddr fa41_0 Q0) ?_
 refine WL.p Q0 (Yl.loadB sca39 Q0 hs Q1 Q0) ?_
 refine WL.p Q0 (Yl.makeFunc Q0 Q0) ?_
 refine WL.callp hs Q0 (Yc.func Q0 fn79) (c_slices_IndexFunc___impl_Entry_impl_Entry_ _ 80 _ (hit top a now) _ (Ph.old h_c.entries hs) fn80 (fun x hx w1 hb1 => c_impl_LookUp_1 x _ _ _ _ _ _ w1 ((hs.ext hb1).box_cells Q1) ((hs.ext hb1).box_cells Q1) ((hs.ext hb1).box_cells Q1))) ?_
 clear hs; intro w hs
 refine Qa ?_
 refine WL.next ?_
 refine WC.seq' ?_
 refine WC.seq ?_
 refine Qm ?_
 refine WL.p Q0 (Yl.lss Q0 Q0) ?_
 refine WL.next ?_
 refine WC.condS Q0 (fun h1 => ?_) (fun h1 => ?_)
 ·
  replace h1 := of_decide_eq_true h1
  refine WC.seq ?_
  refine WL.callp hs Q0 (Yc.func Q0 fn48) (c_impl_NotFound _) ?_
  clear hs; intro w hs
  refine WL.s (Yr.storeB hs Q0 Q0 Q0 Q5 Q3 Q0 (by exact szf45)) ?_
  clear hs; rintro _ w hs
  refine Qa ?_
  refine WL.next ?_
  refine WC.ret ?_
  refine At.thenret ?_
  refine fin2c rfl agg45 Q0 Q0 hs Q1 Q0 ?_
  refine RetP.mk hs ?_
  have e : lookIn top a now c.lg.entries = (notFound, false) := by simp only [lookIn, idxF_none h1]
  rw [e]; rfl
 ·
  replace h1 := of_decide_eq_false h1
  obtain ⟨j, d, hj, hd, hf⟩ := idxF_some h1
  rw [Nat.zero_add] at hj
  refine WC.skipn ?_
  refine WC.seq ?_
  refine WL.p Q0 (Yl.fieldAddr fa41_0 Q0) ?_
  refine WL.p Q0 (Yl.loadB sca39 Q0 hs Q1 Q0) ?_
  refine Qm ?_
  refine WL.p Q0 (Yl.indexAddr slt39 Q0 Q0 (Ph.old h_c.entries hs) (by exact hj) (hd)) ?_
  refine WL.p Q0 (Yl.fieldAddr fa99_2 Q0) ?_
  refine WL.p Q0 (Yl.loadAC agg45 Q0 (Sl.Ok.at_ (Ph.old h_c.entries hs) (by assumption)).2 Q0 Q0) ?_
  refine WL.s (Yr.storeB hs Q0 Q0 Q0 Q5 Q3 Q0 (by exact szf45)) ?_
  clear hs; rintro _ w hs
  refine Qa ?_
  refine WL.next ?_
  refine WC.ret ?_
  refine fin2c rfl agg45 Q0 Q0 hs Q1 Q0 ?_
  refine RetP.mk hs ?_
  have e : lookIn top a now c.lg.entries = (d.response, true) := by simp only [lookIn, hf]
  rw [e]; rfl

theorem c_slices_DeleteFunc___impl_Entry_impl_Entry_ (s : (Sl TEntry)) (del : FuncId) (us_del : List Value) (p_del : TEntry → Bool) (w : World) (F : List Nat) (hF : Own.own w s F) (hn : F.Nodup)   (hfn_del : FN Tryd.prog del) (hf_del : ∀ x ∈ s.l, ∀ w', Touch (fun k => k ∈ F) w w' → Calls Tryd.prog del (([.agg (Ph.enc x).toArray] : List Value) ++ us_del).toArray w' (RetP w' (Bo (p_del x)))) : Calls Tryd.prog 81 [Sl.v s, .func (.func del) #[] us_del.toArray].toArray w (RetO w F (fun s' : Sl TEntry => s'.l = s.l.filter (fun x => !p_del x))) := by
 have hw := (Own.ok hF : Sl.Ok w s).lt
 refine enterN 42 Tryd.func81 rfl rfl rfl ?_
 have hs := Sat.markStart hF hn
 refine WC.seq ?_
 refine Qa ?_
 refine WL.next ?_
 refine WC.seq ?_
 refine Qm ?_
 refine Qm ?_
 refine WL.callp hs Q0 (Yc.func Q0 fn79) (c_slices_IndexFunc___impl_Entry_impl_Entry_ _ _ _ p_del _ (hs.okow (x := s) (F := F) Q1) hfn_del (fun x hx w1 hb1 => hf_del x hx w1 (hs.ext hb1).tch)) ?_
 clear hs; intro w hs
 refine Qa ?_
 refine WL.next ?_
 refine WC.seq' ?_
 refine WC.seq ?_
 refine Qm ?_
 refine WL.p Q0 (Yl.eqi Q0 Q0) ?_
 refine WL.next ?_
 refine WC.condS Q0 (fun h1 => ?_) (fun h1 => ?_)
 ·
  replace h1 := of_decide_eq_true h1
  refine WC.seq ?_
  refine Qm ?_
  refine Qa ?_
  refine WL.next ?_
  refine WC.ret ?_
  refine At.thenret ?_
  refine fin1' rfl Q0 ?_
  exact RetO.of hs Q1 rfl (idxF_m1 h1).symm
 ·
  replace h1 := of_decide_eq_false h1
  have hge := idxF_ge (p := p_del) (l := s.l) (k := 0)
  obtain ⟨k0, d0, hk0, hd0, hf0⟩ := idxF_some (show ¬ idxF p_del s.l 0 < 0 by omega)
  have hk1 := idxF_cut hk0
  rw [Nat.zero_add] at hk0
  have hk2 : k0 < s.l.length := (List.getElem?_eq_some_iff.1 hd0).1
  refine WC.skipn ?_
  refine WC.seq' ?_
  refine WC.seq ?_
  refine Qm ?_
  refine WL.p Q0 (Yl.add Q0 Q0 Q7) ?_
  refine Qa ?_
  refine WL.next ?_
  refine WC.block ?_
  refine WC.loopC (ι := Nat × Nat × Sl TEntry × List Nat) (fun ⟨m, k, z, F1⟩ => s.l.length - k) (fun ⟨m, k, z, F1⟩ => [(5, I (m : Int)), (6, I (k : Int))]) (fun ⟨m, k, z, F1⟩ => [ow z F1]) (fun ⟨m, k, z, F1⟩ => m < k ∧ k ≤ s.l.length ∧ z.v = s.v ∧ z.l.length = s.l.length ∧ z.l.take m = (s.l.take k).filter (fun x => !p_del x) ∧ z.l.drop k = s.l.drop k) [(0, _), (1, _), (4, _), (12, _)] (k0, k0 + 1, s, F) (hs.sel (D := [ow s F]) Q2) ⟨by rfl, by rfl, by rfl, by rfl, trivial⟩ ⟨by exact congrArg (fun z => some (I z)) hk0, by exact congrArg (fun z => some (I z)) (by rw [hk0]; omega), trivial⟩ ?_ ?_
  ·
   exact ⟨by omega, by omega, rfl, rfl, hk1.symm, rfl⟩
  clear hs; rintro ⟨m, k, z, F1⟩ w ⟨hJ1, hJ2, hJ3, hJ4, hJ5, hJ6⟩ hs
  simp only [List.cons_append, List.nil_append] at hs
  refine WC.seq' ?_
  refine WC.seq ?_
  refine Qm ?_
  refine Qm ?_
  refine WL.p Q0 (Yl.len_sl slu39 Q0) ?_
  refine WL.p Q0 (Yl.lss Q0 Q0) ?_
  refine WL.next ?_
  refine WC.condS Q0 (fun h2 => ?_) (fun h2 => ?_)
  ·
   replace h2 := of_decide_eq_true h2
   obtain ⟨d, hdd⟩ := exists_get (l := s.l) (k := k) Q7
   have hd : z.l[k]? = some d := get_of_drop hJ6 hdd
   have hml : m < z.l.length := by omega
   refine WC.skipn ?_
   refine WC.seq' ?_
   refine WC.block ?_
   refine WC.seq ?_
   refine Qm ?_
   refine Qm ?_
   refine WL.p Q0 (Yl.indexAddrV slt39 Q0 hJ3 Q0 (hs.okow (x := z) (F := F1) Q1) Q0 (hd)) ?_
   refine WL.p Q0 (Yl.loadA agg99 Q0 (Sl.Ok.at_ (hs.okow (x := z) (F := F1) Q1) (by assumption)).2 Q0) ?_
   refine WL.r Q0 (Yr.alloc hs zt99) ?_
   clear hs; rintro _ w ⟨b1, rfl, hb, hs⟩; clear hb
   refine WL.s (Yr.storeB hs Q0 Q0 Q0 Q5 Q3 Q0 (by exact szf99)) ?_
   clear hs; rintro _ w hs
   refine WL.next ?_
   refine WC.seq ?_
   refine Qm ?_
   refine WL.p Q0 (Yl.loadAB agg99 Q0 hs Q1 Q0 Q0) ?_
   refine WL.callp hs Q0 (Yc.value Q0 Q0 hfn_del Q0) (hf_del _ (List.mem_of_getElem? hdd) _ hs.tch) ?_
   clear hs; intro w hs
   refine WL.p Q0 (Yl.not Q0) ?_
   refine WL.next ?_
   refine WC.condS Q0 (fun h3 => ?_) (fun h3 => ?_)
   ·
    replace h3 := not_eq_true h3
    refine WC.seq ?_
    refine Qm ?_
    refine Qm ?_
    refine WL.p Q0 (Yl.loadAB agg99 Q0 hs Q1 Q0 Q0) ?_
    refine WL.p Q0 (Yl.indexAddrV slt39 Q0 hJ3 Q0 (hs.okow (x := z) (F := F1) Q1) Q0 (List.getElem?_eq_getElem hml)) ?_
    refine WL.s (Yr.storeE (u := d) (k := m) (hs.flat (x := (d : TEntry)) (by exact Flat.any ((Own.ok hF : Sl.Ok _ s).elems d (List.mem_of_getElem? hdd)))) Q2 Q0 Q0 Q0 (by exact hml) ⟨_, by rfl, by rfl⟩ szf99) ?_
    clear hs; rintro _ w ⟨F2, hs⟩
    refine WL.next ?_
    refine WC.region ?_
    refine Qm ?_
    refine WL.p Q0 (Yl.add Q0 Q0 Q7) ?_
    refine Qa ?_
    refine WL.nil ?_
    refine At.blocknormal ?_
    refine At.then_ ?_
    refine WC.region ?_
    refine Qm ?_
    refine WL.p Q0 (Yl.add Q0 Q0 Q7) ?_
    refine Qa ?_
    refine WL.nil ?_
    refine At.roundC (m + 1, k + 1, ⟨z.l.set m d, z.a, z.c⟩, _) (hs.only Q2) ⟨by rfl, by rfl, by rfl, by rfl, trivial⟩ ⟨by rfl, by rfl, trivial⟩ ?_ ?_
    ·
     show s.l.length - (k + 1) < s.l.length - k
     omega
    ·
     exact ⟨by omega, by omega, by rw [Sl.v_set]; exact hJ3, by simpa using hJ4, by rw [take_set_succ hml, hJ5]; exact filter_yes hdd (by simp_all), by rw [List.drop_set_of_lt Q7]; exact drop_next hJ6⟩
   ·
    replace h3 := not_eq_false h3
    refine WC.skip ?_
    refine At.blocknormal ?_
    refine At.then_ ?_
    refine WC.region ?_
    refine Qm ?_
    refine WL.p Q0 (Yl.add Q0 Q0 Q7) ?_
    refine Qa ?_
    refine WL.nil ?_
    refine At.roundC (m, k + 1, z, F1) (hs.only Q2) ⟨by rfl, by rfl, by rfl, by rfl, trivial⟩ ⟨by rfl, by rfl, trivial⟩ ?_ ?_
    ·
     show s.l.length - (k + 1) < s.l.length - k
     omega
    ·
     exact ⟨by omega, by omega, hJ3, hJ4, by rw [hJ5]; exact filter_no hdd (by simp_all), drop_next hJ6⟩
  ·
   replace h2 := of_decide_eq_false h2
   refine WC.exit ?_
   refine At.thenexit ?_
   refine At.thenexit ?_
   refine At.blockexit ?_
   refine At.then_ ?_
   refine WC.seq ?_
   refine Qm ?_
   refine Qm ?_
   refine WL.p Q0 (Yl.slice_sl (s := z) (l := m) (h := z.l.length) slt39 (by exact (congrArg some hJ3).symm) (Sl.Ok.le (hs.okow (x := z) (F := F1) Q1)) ⟨_, by rfl⟩ rfl Q7 (by first | omega | exact Nat.le_refl _)) ?_
   refine WL.s (Yr.clearTail (s := z) (F := F1) (k := m) hs elt39 Q2 Q0 Q7 (fun w => TEntry.zok w)) ?_
   clear hs; rintro _ w ⟨s3, hv3, hl3, hs⟩
   refine WL.next ?_
   refine WC.seq ?_
   refine Qm ?_
   refine Qm ?_
   refine WL.p Q0 (Yl.slice_sl (s := s3) (l := 0) (h := m) slt39 (by exact (congrArg some (hv3.trans hJ3)).symm) (Sl.Ok.le (hs.okow (x := s3) (F := F1) Q1)) rfl ⟨_, by rfl⟩ Q7 (by first | omega | (rw [hl3]; simp; omega))) ?_
   refine Qa ?_
   refine WL.next ?_
   refine WC.ret ?_
   refine fin1' rfl Q0 ?_
   obtain ⟨F9, hs⟩ := Sat.cutow (lo := 0) (hi := m) (hs.sel (D := [ow s3 F1]) Q2) (Nat.zero_le _) (by rw [hl3]; simp; omega)
   exact RetO.of hs List.mem_cons_self rfl (by rw [Sl.cut_head, hl3, List.take_append_of_le_length (by simp; omega), List.take_take, Nat.min_self, hJ5, show k = s.l.length from by omega, List.take_length])

theorem c_impl_ForgetHost_1 (e : TEntry) (top : Str) (b1 : Nat) (w : World)   (hc1 : CellsAt w b1 0 [S top]) : Calls Tryd.prog 82 [.agg #[S e.top, S e.to.host, S e.to.path, I e.response.status, I e.response.kind, S e.response.body, I e.response.age, Bo e.response.shares, S e.response.policy, I e.until_], bp b1 0].toArray w (RetP w (Bo (decide (e.top = top)))) := by
 refine enterN 8 Tryd.func82 rfl rfl rfl ?_
 have hs := Sat.start w
 refine WC.seq ?_
 refine WL.r Q0 (Yr.box hs Q0 Q0) ?_
 clear hs; rintro _ w ⟨b1, rfl, hb, hs⟩; clear hb
 refine Qa ?_
 refine WL.next ?_
 refine WC.seq ?_
 refine WL.p Q0 (Yl.fieldAddr fa99_0 Q0) ?_
 refine WL.p Q0 (Yl.loadB sca9 Q0 hs Q1 Q0) ?_
 refine WL.p Q0 (Yl.loadC0 sca9 Q0 (hc1.ext hs.below) Q0) ?_
 refine WL.p Q0 (Yl.eqs Q0 Q0) ?_
 refine Qa ?_
 refine WL.next ?_
 refine WC.ret ?_
 refine fin1' rfl Q0 ?_
 refine RetP.mk hs ?_
 rfl

theorem c_impl_ForgetHost (c : PCache) (top : Str) (w : World) (h_c : Ph.ok w c) (hb : c.lg.size ≤ 1048576) : Calls Tryd.prog 25 [.agg #[Sl.v c.entries], S top].toArray w (Ret w (fun v w' => ∃ x : PCache, v = .agg (Ph.enc x).toArray ∧ x.lg = c.lg.forget top ∧ Fresh w x w')) := by
 refine enterN 14 Tryd.func25 rfl rfl rfl ?_
 have hs := Sat.start w
 refine WC.seq ?_
 refine WL.r Q0 (Yr.box hs Q0 Q0) ?_
 clear hs; rintro _ w ⟨b1, rfl, hb, hs⟩; clear hb
 refine WL.r Q0 (Yr.box hs Q0 Q0) ?_
 clear hs; rintro _ w ⟨b2, rfl, hb, hs⟩; clear hb
 refine WL.r Q0 (Yr.alloc hs zt41) ?_
 clear hs; rintro _ w ⟨b3, rfl, hb, hs⟩; clear hb
 refine WL.next ?_
 refine WC.seq ?_
 refine WL.p Q0 (Yl.loadAB agg41 Q0 hs Q1 Q0 Q0) ?_
 refine WL.call hs Q0 (Yc.func Q0 fn71) (c_impl_copyCache _ _ (Ph.old h_c hs) Q10) ?_
 have hs0 := hs; clear hs; intro v w hb hR hs; clear hs
 obtain ⟨x4, rfl, hx4, hf4⟩ := hR
 obtain ⟨F4, hs⟩ := hf4.sat hs0 hb; clear hs0 hf4
 refine WL.r Q0 (Yr.alloc hs zt41) ?_
 clear hs; rintro _ w ⟨b5, rfl, hb, hs⟩; clear hb
 refine WL.s (Yr.storeB hs Q0 Q0 Q0 Q5 Q3 Q0 (by exact szf41)) ?_
 clear hs; rintro _ w hs
 refine WL.next ?_
 refine WC.seq ?_
 refine WL.p Q0 (Yl.fieldAddr fa41_0 Q0) ?_
 refine WL.p Q0 (Yl.loadB sca39 Q0 hs Q1 Q0) ?_
 refine WL.p Q0 (Yl.makeFunc Q0 Q0) ?_
 obtain ⟨K6_0, hfl6, hs⟩ := PCache.split (hs.sel (D := [ow x4 F4]) Q2)
 try simp only [List.cons_append, List.nil_append] at hs
 refine WL.callo (s := x4.entries) (F := K6_0) hs Q2 Q0 (Yc.func Q0 fn81) (c_slices_DeleteFunc___impl_Entry_impl_Entry_ x4.entries 82 _ (fun e => decide (e.top = top)) _ K6_0 (own_of hs Q1) (nodup_of hs Q1) fn82 (fun x hx w1 ht => c_impl_ForgetHost_1 x _ _ w1 (hs.box_touch (s := x4.entries) (F := K6_0) Q2 ht))) ?_
 clear hs; intro x7 F7 w hx7 hs
 refine WL.p Q0 (Yl.fieldAddr fa41_0 Q0) ?_
 refine WL.s (Yr.storeB hs Q0 Q0 Q0 Q5 Q3 Q0 (by exact szf39)) ?_
 clear hs; rintro _ w hs
 refine WL.next ?_
 refine WC.seq ?_
 refine WL.p Q0 (Yl.loadAB agg41 Q0 hs Q1 Q0 Q0) ?_
 refine WL.s (Yr.storeB hs Q0 Q0 Q0 Q5 Q3 Q0 (by exact szf41)) ?_
 clear hs; rintro _ w hs
 refine WL.next ?_
 refine WC.ret ?_
 refine fin1c rfl agg41 Q0 hs Q1 Q0 ?_
 refine Ret.mk hs ?_
 refine ⟨⟨x7⟩, rfl, ?_, ?_⟩
 · simp_all [TCache.forget]
 · exact (PCache.join _ (hs.only (D := [ow x7 F7]) Q2) ).fresh List.mem_cons_self

theorem c_impl_EqualResponses (a : TResponse) (b : TResponse) (w : World)   : Calls Tryd.prog 26 [.agg #[I a.status, I a.kind, S a.body, I a.age, Bo a.shares, S a.policy], .agg #[I b.status, I b.kind, S b.body, I b.age, Bo b.shares, S b.policy]].toArray w (RetP w (Bo (decide (a = b)))) := by
 refine enterN 8 Tryd.func26 rfl rfl rfl ?_
 have hs := Sat.start w
 refine WC.seq ?_
 refine WL.r Q0 (Yr.box hs Q0 Q0) ?_
 clear hs; rintro _ w ⟨b1, rfl, hb, hs⟩; clear hb
 refine WL.r Q0 (Yr.box hs Q0 Q0) ?_
 clear hs; rintro _ w ⟨b2, rfl, hb, hs⟩; clear hb
 refine Qa ?_
 refine WL.next ?_
 refine WC.seq ?_
 refine WL.p Q0 (Yl.loadAB agg45 Q0 hs Q1 Q0 Q0) ?_
 refine WL.p Q0 (Yl.loadAB agg45 Q0 hs Q1 Q0 Q0) ?_
 refine WL.p Q0 (Yl.eqt eqt45 Q0 Q0) ?_
 refine Qa ?_
 refine WL.next ?_
 refine WC.ret ?_
 refine fin1' rfl Q0 ?_
 refine RetP.mk hs ?_
 rfl

theorem c_impl_FreshEntries (c : PCache) (now : Int) (w : World) (h_c : Ph.ok w c)  : Calls Tryd.prog 28 [.agg #[Sl.v c.entries], I now].toArray w (RetP w (I (c.lg.fresh now : Int))) := by
 have hw := h_c.entries.lt
 refine enterN 23 Tryd.func28 rfl rfl rfl ?_
 have hs := Sat.start w
 refine WC.seq ?_
 refine WL.r Q0 (Yr.box hs Q0 Q0) ?_
 clear hs; rintro _ w ⟨b1, rfl, hb, hs⟩; clear hb
 refine Qa ?_
 refine WL.next ?_
 refine WC.seq ?_
 refine Qa ?_
 refine WL.next ?_
 refine WC.seq' ?_
 refine WC.seq ?_
 refine WL.p Q0 (Yl.fieldAddr fa41_0 Q0) ?_
 refine WL.p Q0 (Yl.loadB sca39 Q0 hs Q1 Q0) ?_
 refine WL.p Q0 (Yl.len_sl slu39 Q0) ?_
 refine Qm ?_
 refine WL.next ?_
 refine WC.block ?_
 refine WC.loopC (ι := Nat × Nat) (fun ⟨k, m⟩ => c.entries.l.length - k) (fun ⟨k, m⟩ => [(11, I (k : Int)), (5, I (m : Int))]) (fun _ => []) (fun ⟨k, m⟩ => m ≤ k ∧ c.lg.fresh now = m + freshN now (c.entries.l.drop k)) [(0, _), (1, _), (2, _), (4, _), (9, _), (10, _)] (0, 0) (hs) ⟨by rfl, by rfl, by rfl, by rfl, by rfl, by rfl, trivial⟩ ⟨by rfl, by rfl, trivial⟩ ?_ ?_
 ·
  exact ⟨Nat.le_refl _, by simp [TCache.fresh]⟩
 clear hs; rintro ⟨k, m⟩ w ⟨hJ1, hJ2⟩ hs
 simp only [List.nil_append] at hs
 refine WC.seq ?_
 refine WL.p Q0 (Yl.lss Q0 Q0) ?_
 refine WL.next ?_
 refine WC.seq' ?_
 refine WC.condS Q0 (fun h1 => ?_) (fun h1 => ?_)
 ·
  replace h1 := of_decide_eq_true h1
  obtain ⟨d, hd⟩ := exists_get (l := c.entries.l) (k := k) Q7
  rw [drop_cons hd] at hJ2
  refine WC.skipn ?_
  refine WC.seq' ?_
  refine WC.block ?_
  refine WC.seq ?_
  refine WL.p Q0 (Yl.indexAddr slt39 Q0 Q0 (Ph.old h_c.entries hs) Q0 (hd)) ?_
  refine WL.p Q0 (Yl.loadA agg99 Q0 (Sl.Ok.at_ (Ph.old h_c.entries hs) (by assumption)).2 Q0) ?_
  refine WL.r Q0 (Yr.alloc hs zt99) ?_
  clear hs; rintro _ w ⟨b2, rfl, hb, hs⟩; clear hb
  refine WL.s (Yr.storeB hs Q0 Q0 Q0 Q5 Q3 Q0 (by exact szf99)) ?_
  clear hs; rintro _ w hs
  refine WL.next ?_
  refine WC.seq ?_
  refine WL.p Q0 (Yl.fieldAddr fa99_3 Q0) ?_
  refine WL.p Q0 (Yl.loadB sca3 Q0 hs Q1 Q0) ?_
  refine Qm ?_
  refine WL.p Q0 (Yl.geq Q0 Q0) ?_
  refine WL.next ?_
  refine WC.condS Q0 (fun h2 => ?_) (fun h2 => ?_)
  ·
   replace h2 := of_decide_eq_true h2
   refine WC.region ?_
   refine Qm ?_
   refine WL.p Q0 (Yl.add Q0 Q0 Q7) ?_
   refine Qa ?_
   refine WL.nil ?_
   refine At.blocknormal ?_
   refine At.then_ ?_
   refine WC.region ?_
   refine WL.p Q0 (Yl.add Q0 Q0 Q7) ?_
   refine Qm ?_
   refine WL.nil ?_
   refine At.roundC (k + 1, m + 1) (hs.only Q2) ⟨by rfl, by rfl, by rfl, by rfl, by rfl, by rfl, trivial⟩ ⟨by rfl, by rfl, trivial⟩ ?_ ?_
   ·
    show c.entries.l.length - (k + 1) < c.entries.l.length - k
    omega
   ·
    rw [freshN_yes Q7] at hJ2
    exact ⟨by omega, by omega⟩
  ·
   replace h2 := of_decide_eq_false h2
   refine WC.skip ?_
   refine At.blocknormal ?_
   refine At.then_ ?_
   refine WC.region ?_
   refine WL.p Q0 (Yl.add Q0 Q0 Q7) ?_
   refine Qm ?_
   refine WL.nil ?_
   refine At.roundC (k + 1, m) (hs.only Q2) ⟨by rfl, by rfl, by rfl, by rfl, by rfl, by rfl, trivial⟩ ⟨by rfl, by rfl, trivial⟩ ?_ ?_
   ·
    show c.entries.l.length - (k + 1) < c.entries.l.length - k
    omega
   ·
    rw [freshN_no Q7] at hJ2
    exact ⟨by omega, by omega⟩
 ·
  replace h1 := of_decide_eq_false h1
  rw [drop_out (l := c.entries.l) Q7] at hJ2
  refine WC.exit ?_
  refine At.thenexit ?_
  refine At.thenexit ?_
  refine At.blockexit ?_
  refine At.then_ ?_
  refine WC.seq ?_
  refine Qm ?_
  refine Qa ?_
  refine WL.next ?_
  refine WC.ret ?_
  refine fin1' rfl Q0 ?_
  refine RetP.mk hs ?_
  rw [hJ2]; simp [freshN]

theorem c_laws_FnCaches (code : (Sl UInt8)) (w : World) (h_code : Ph.ok w code) (hm_ : ∃ m, w.cell? ⟨0, 0, none⟩ = some (.int .i64 m)) : Calls Tryd.prog 4 [Sl.v code].toArray w (RetP w (Bo true)) := by
 refine enterN 139 Tryd.func4 rfl rfl rfl ?_
 have hs := Sat.start w
 refine WC.seq ?_
 refine Qa ?_
 refine WL.next ?_
 refine WC.seq' ?_
 refine WC.seq ?_
 refine Qm ?_
 refine WL.callp hs Q0 (Yc.func Q0 fn7) (c_laws_big _ _ (Ph.old h_code hs)) ?_
 clear hs; intro w hs
 refine WL.next ?_
 refine WC.condS Q0 (fun h1 => ?_) (fun h1 => ?_)
 ·
  replace h1 := of_decide_eq_true h1
  refine WC.seq ?_
  refine Qa ?_
  refine WL.next ?_
  refine WC.ret ?_
  refine At.thenret ?_
  refine fin1' rfl Q0 ?_
  refine RetP.mk hs ?_
  first
   | rfl
   | (clear hs; simp_all; done)
   | (clear hs; simp_all; omega)
 ·
  replace h1 := of_decide_eq_false h1
  refine WC.skipn ?_
  refine WC.seq ?_
  refine Qm ?_
  refine WL.callx hs Q0 (Yc.func Q0 fn20) (c_spec_DrawStoreEntry _ _ (Ph.old h_code hs)) ?_
  clear hs; intro v w ho hR hs
  obtain ⟨x1_x, x1_h, x1_a, x1_r, x1_n, rfl, ⟨hokx1_h, hokx1_a, hokx1_r, hokx1_n⟩, hx1, hf1⟩ := hR
  obtain ⟨F1, hs⟩ := hs.addF ho hf1
  clear ho hf1
  have hh1 := mem_len 4 hx1.2.1 Q0
  refine Qm ?_
  refine WL.p Q0 (Yl.extract Q0 Q0) ?_
  refine WL.p Q0 (Yl.extract Q0 Q0) ?_
  refine WL.p Q0 (Yl.extract Q0 Q0) ?_
  refine WL.p Q0 (Yl.extract Q0 Q0) ?_
  refine WL.p Q0 (Yl.extract Q0 Q0) ?_
  refine WL.r Q0 (Yr.alloc hs zt41) ?_
  clear hs; rintro _ w ⟨b2, rfl, hb, hs⟩; clear hb
  refine WL.r Q0 (Yr.alloc hs zt43) ?_
  clear hs; rintro _ w ⟨b3, rfl, hb, hs⟩; clear hb
  refine WL.r Q0 (Yr.alloc hs zt45) ?_
  clear hs; rintro _ w ⟨b4, rfl, hb, hs⟩; clear hb
  refine WL.s (Yr.storeB hs Q0 Q0 Q0 Q5 Q3 Q0 (by exact szf41)) ?_
  clear hs; rintro _ w hs
  refine Qa ?_
  refine WL.s (Yr.storeB hs Q0 Q0 Q0 Q5 Q3 Q0 (by exact szf43)) ?_
  clear hs; rintro _ w hs
  refine WL.s (Yr.storeB hs Q0 Q0 Q0 Q5 Q3 Q0 (by exact szf45)) ?_
  clear hs; rintro _ w hs
  refine Qa ?_
  refine WL.next ?_
  refine WC.seq ?_
  refine WL.p Q0 (Yl.loadAB agg41 Q0 hs Q1 Q0 Q0) ?_
  refine Qm ?_
  refine WL.p Q0 (Yl.loadAB agg43 Q0 hs Q1 Q0 Q0) ?_
  refine WL.p Q0 (Yl.loadAB agg45 Q0 hs Q1 Q0 Q0) ?_
  refine Qm ?_
  refine WL.call hs Q0 (Yc.func Q0 fn21) (c_impl_StoreEntry _ _ _ _ _ _ (hs.okow (x := x1_x) (F := F1) Q1) (Flat.any hokx1_h) (Flat.any hokx1_a) (Flat.any hokx1_r) (Flat.any hokx1_n) Q7 (by simp only [TResponse.size] at *; omega) (by first | assumption | exact Sat.cellm hs (by assumption))) ?_
  have hs0 := hs; clear hs; intro v w hb hR hs; clear hs
  obtain ⟨x5, rfl, hx5, hf5⟩ := hR
  obtain ⟨F5, hs⟩ := hf5.sat hs0 hb; clear hs0 hf5
  have hz5 := storeEntry_size_of hx5
  refine WL.r Q0 (Yr.alloc hs zt41) ?_
  clear hs; rintro _ w ⟨b6, rfl, hb, hs⟩; clear hb
  refine WL.s (Yr.storeB hs Q0 Q0 Q0 Q5 Q3 Q0 (by exact szf41)) ?_
  clear hs; rintro _ w hs
  refine WL.next ?_
  refine WC.seq' ?_
  refine WC.anyn mixed hs ?_
  clear hs; intro w hs
  refine WA.p (i := 0) Q0 Q6 Q6 Q6 Q0 (hs.only Q2) (fun w hs => Yl.loadAB agg41 Q0 hs Q1 Q0 Q0) ?_
  refine WA.p (i := 1) Q0 Q6 Q6 Q6 Q0 (hs.only Q2) (fun w hs => Yl.loadAB agg41 Q0 hs Q1 Q0 Q0) ?_
  refine WA.p (i := 2) Q0 Q6 Q6 Q6 Q0 (hs.only Q2) (fun w hs => Yl.move Q0) ?_
  refine WA.p (i := 3) Q0 Q6 Q6 Q6 Q0 (hs.only Q2) (fun w hs => Yl.loadAB agg43 Q0 hs Q1 Q0 Q0) ?_
  refine WA.p (i := 4) Q0 Q6 Q6 Q6 Q0 (hs.only Q2) (fun w hs => Yl.loadAB agg45 Q0 hs Q1 Q0 Q0) ?_
  refine WA.p (i := 5) Q0 Q6 Q6 Q6 Q0 (hs.only Q2) (fun w hs => Yl.move Q0) ?_
  refine WA.call2 (i := 6) hs (fun _ hs => hs.only Q2) Q6 Q0 Q0 (Yc.func Q0 fn23) (c_spec_StoreEntry _ _ _ _ _ _ (hs.okow (x := x1_x) (F := F1) Q1) (Flat.any hokx1_h) (Flat.any hokx1_a) (Flat.any hokx1_r) (Flat.any hokx1_n) Q7 (by simp only [TResponse.size] at *; omega)) ?_
  have hs0 := hs; clear hs; intro v w hb hR hs; clear hs
  obtain ⟨x7, rfl, hx7, hf7⟩ := hR
  obtain ⟨F7, hs⟩ := hf7.sat hs0 hb; clear hs0 hf7
  have hz7 := storeEntry_size_of hx7
  refine WA.callp2 (i := 7) hs (fun _ hs => hs.only Q2) Q6 Q0 Q0 (Yc.func Q0 fn22) (c_impl_EqualCaches _ _ _ (hs.okow (x := x5) (F := F5) Q1) (hs.okow (x := x7) (F := F7) Q1)) ?_
  clear hs; intro w hs
  refine WA.p (i := 8) Q0 Q6 Q6 Q6 Q0 (hs.only Q2) (fun w hs => Yl.not Q0) ?_
  refine WA.donen Q6 ?_
  refine WC.condS Q0 (fun h2 => ?_) (fun h2 => ?_)
  ·
   replace h2 := not_eq_true h2
   replace h2 := of_decide_eq_false h2
   exfalso
   (try clear join); (try clear ha); (try clear hs)
   simp_all
  ·
   replace h2 := not_eq_false h2
   replace h2 := of_decide_eq_true h2
   refine WC.skipn ?_
   refine WC.seq' ?_
   refine WC.seq ?_
   refine WL.p Q0 (Yl.loadAB agg41 Q0 hs Q1 Q0 Q0) ?_
   refine WL.p Q0 (Yl.loadAB agg41 Q0 hs Q1 Q0 Q0) ?_
   refine WL.callp hs Q0 (Yc.func Q0 fn22) (c_impl_EqualCaches _ _ _ (hs.okow (x := x5) (F := F5) Q1) (hs.okow (x := x1_x) (F := F1) Q1)) ?_
   clear hs; intro w hs
   refine WL.next ?_
   refine WC.condS Q0 (fun h3 => ?_) (fun h3 => ?_)
   ·
    replace h3 := of_decide_eq_true h3
    refine WC.seq ?_
    refine Qa ?_
    refine WL.next ?_
    refine WC.ret ?_
    refine At.thenret ?_
    refine fin1' rfl Q0 ?_
    refine RetP.mk hs ?_
    first
     | rfl
     | (clear hs; simp_all; done)
     | (clear hs; simp_all; omega)
   ·
    replace h3 := of_decide_eq_false h3
    obtain ⟨f0, f1, f2, f3, f4, f5, f6, f7⟩ := cache_facts (other := [111, 116, 104, 101, 114]) hx5 h3 ((show ∀ y ∈ ([[104, 111, 109, 101], [99, 100, 110], []] : List Str), y ≠ [111, 116, 104, 101, 114] by decide) _ hx1.2.1)
    refine WC.skipn ?_
    refine WC.seq ?_
    refine WL.p Q0 (Yl.loadAB agg41 Q0 hs Q1 Q0 Q0) ?_
    refine Qm ?_
    refine WL.p Q0 (Yl.loadAB agg43 Q0 hs Q1 Q0 Q0) ?_
    refine Qm ?_
    refine WL.p Q0 (Yl.fieldAddr fa45_3 Q0) ?_
    refine WL.p Q0 (Yl.loadB sca3 Q0 hs Q1 Q0) ?_
    refine WL.p Q0 (Yl.add Q0 Q0 Q7) ?_
    refine WL.callp hs Q0 (Yc.func Q0 fn24) (c_impl_LookUp _ _ _ _ _ (hs.okow (x := x5) (F := F5) Q1)) ?_
    clear hs; intro w hs
    refine Qm ?_
    refine WL.p Q0 (Yl.extract Q0 Q0) ?_
    refine WL.p Q0 (Yl.extract Q0 Q0) ?_
    refine WL.r Q0 (Yr.alloc hs zt45) ?_
    clear hs; rintro _ w ⟨b8, rfl, hb, hs⟩; clear hb
    refine WL.s (Yr.storeB hs Q0 Q0 Q0 Q5 Q3 Q0 (by exact szf45)) ?_
    clear hs; rintro _ w hs
    refine Qa ?_
    refine WL.next ?_
    refine WC.seq ?_
    refine WL.p Q0 (Yl.loadAB agg41 Q0 hs Q1 Q0 Q0) ?_
    refine Qm ?_
    refine WL.p Q0 (Yl.loadAB agg43 Q0 hs Q1 Q0 Q0) ?_
    refine Qm ?_
    refine WL.p Q0 (Yl.fieldAddr fa45_3 Q0) ?_
    refine WL.p Q0 (Yl.loadB sca3 Q0 hs Q1 Q0) ?_
    refine WL.p Q0 (Yl.add Q0 Q0 Q7) ?_
    refine WL.p Q0 (Yl.add Q0 Q0 Q7) ?_
    refine WL.callp hs Q0 (Yc.func Q0 fn24) (c_impl_LookUp _ _ _ _ _ (hs.okow (x := x5) (F := F5) Q1)) ?_
    clear hs; intro w hs
    refine Qm ?_
    refine WL.p Q0 (Yl.extract Q0 Q0) ?_
    refine WL.p Q0 (Yl.extract Q0 Q0) ?_
    refine WL.r Q0 (Yr.alloc hs zt45) ?_
    clear hs; rintro _ w ⟨b9, rfl, hb, hs⟩; clear hb
    refine WL.s (Yr.storeB hs Q0 Q0 Q0 Q5 Q3 Q0 (by exact szf45)) ?_
    clear hs; rintro _ w hs
    refine Qa ?_
    refine WL.next ?_
    refine WC.seq ?_
    refine WL.p Q0 (Yl.loadAB agg41 Q0 hs Q1 Q0 Q0) ?_
    refine WL.p Q0 (Yl.loadAB agg43 Q0 hs Q1 Q0 Q0) ?_
    refine Qm ?_
    refine WL.callp hs Q0 (Yc.func Q0 fn24) (c_impl_LookUp _ _ _ _ _ (hs.okow (x := x5) (F := F5) Q1)) ?_
    clear hs; intro w hs
    refine Qm ?_
    refine WL.p Q0 (Yl.extract Q0 Q0) ?_
    refine WL.p Q0 (Yl.extract Q0 Q0) ?_
    refine WL.r Q0 (Yr.alloc hs zt45) ?_
    clear hs; rintro _ w ⟨b10, rfl, hb, hs⟩; clear hb
    refine WL.s (Yr.storeB hs Q0 Q0 Q0 Q5 Q3 Q0 (by exact szf45)) ?_
    clear hs; rintro _ w hs
    refine Qa ?_
    refine WL.next ?_
    refine WC.seq ?_
    refine WL.p Q0 (Yl.loadAB agg41 Q0 hs Q1 Q0 Q0) ?_
    refine WL.p Q0 (Yl.loadAB agg43 Q0 hs Q1 Q0 Q0) ?_
    refine Qm ?_
    refine WL.callp hs Q0 (Yc.func Q0 fn24) (c_impl_LookUp _ _ _ _ _ (hs.okow (x := x1_x) (F := F1) Q1)) ?_
    clear hs; intro w hs
    refine Qm ?_
    refine WL.p Q0 (Yl.extract Q0 Q0) ?_
    refine WL.p Q0 (Yl.extract Q0 Q0) ?_
    refine WL.r Q0 (Yr.alloc hs zt45) ?_
    clear hs; rintro _ w ⟨b11, rfl, hb, hs⟩; clear hb
    refine WL.s (Yr.storeB hs Q0 Q0 Q0 Q5 Q3 Q0 (by exact szf45)) ?_
    clear hs; rintro _ w hs
    refine Qa ?_
    refine WL.next ?_
    refine WC.seq ?_
    refine WL.p Q0 (Yl.loadAB agg41 Q0 hs Q1 Q0 Q0) ?_
    refine Qm ?_
    refine WL.call hs Q0 (Yc.func Q0 fn25) (c_impl_ForgetHost _ _ _ (hs.okow (x := x5) (F := F5) Q1) Q7) ?_
    have hs0 := hs; clear hs; intro v w hb hR hs; clear hs
    obtain ⟨x12, rfl, hx12, hf12⟩ := hR
    obtain ⟨F12, hs⟩ := hf12.sat hs0 hb; clear hs0 hf12
    have g4 : (lookIn x1_h x1_a x1_n x12.entries.l).2 = false := by
     show (lookIn x1_h x1_a x1_n (PCache.lg x12).entries).2 = false
     rw [hx12]; exact f4
    refine WL.r Q0 (Yr.alloc hs zt41) ?_
    clear hs; rintro _ w ⟨b13, rfl, hb, hs⟩; clear hb
    refine WL.s (Yr.storeB hs Q0 Q0 Q0 Q5 Q3 Q0 (by exact szf41)) ?_
    clear hs; rintro _ w hs
    refine WL.next ?_
    refine WC.seq ?_
    refine WL.p Q0 (Yl.loadAB agg41 Q0 hs Q1 Q0 Q0) ?_
    refine Qm ?_
    refine WL.p Q0 (Yl.loadAB agg43 Q0 hs Q1 Q0 Q0) ?_
    refine Qm ?_
    refine WL.callp hs Q0 (Yc.func Q0 fn24) (c_impl_LookUp _ _ _ _ _ (hs.okow (x := x12) (F := F12) Q1)) ?_
    clear hs; intro w hs
    refine Qm ?_
    refine WL.p Q0 (Yl.extract Q0 Q0) ?_
    refine WL.p Q0 (Yl.extract Q0 Q0) ?_
    refine WL.r Q0 (Yr.alloc hs zt45) ?_
    clear hs; rintro _ w ⟨b14, rfl, hb, hs⟩; clear hb
    refine WL.s (Yr.storeB hs Q0 Q0 Q0 Q5 Q3 Q0 (by exact szf45)) ?_
    clear hs; rintro _ w hs
    refine Qa ?_
    refine WL.next ?_
    refine WC.quietn mixed Q6 hs ?_
    refine WQ.p Q0 (fun w hs => Yl.move Q0) ?_
    refine WQ.p Q0 (fun w hs => Yl.move Q0) ?_
    refine WQ.split (d := 97) Q0 (fun h4 => ?_) (fun h4 => ?_)
    ·
     refine WQ.run (d := 97) Q0 Q0 ?_
     refine WQ.p Q0 (fun w hs => Yl.loadAB agg45 Q0 hs Q1 Q0 Q0) ?_
     refine WQ.run (d := 97) Q0 Q0 ?_
     refine WQ.p Q0 (fun w hs => Yl.loadAB agg45 Q0 hs Q1 Q0 Q0) ?_
     refine WQ.run (d := 97) Q0 Q0 ?_
     refine WQ.callp Q0 (fun w => Yc.func Q0 fn26) (fun w hs => (c_impl_EqualResponses _ _ _)) (fun _ _ hs hb => hs.ext hb) ?_
     refine WQ.p Q0 (fun w hs => Yl.pickT Q0 Q0) ?_
     refine WQ.p Q0 (fun w hs => Yl.move Q0) ?_
     refine WQ.split (d := 102) Q0 (fun h5 => ?_) (fun h5 => ?_)
     ·
      refine WQ.run (d := 102) Q0 Q0 ?_
      refine WQ.p Q0 (fun w hs => Yl.move Q0) ?_
      refine WQ.run (d := 102) Q0 Q0 ?_
      refine WQ.p Q0 (fun w hs => Yl.not Q0) ?_
      refine WQ.p Q0 (fun w hs => Yl.pickT Q0 Q0) ?_
      refine WQ.p Q0 (fun w hs => Yl.move Q0) ?_
      refine WQ.split (d := 106) Q0 (fun h6 => ?_) (fun h6 => ?_)
      ·
       replace h6 := not_eq_true h6
       refine WQ.run (d := 106) Q0 Q0 ?_
       refine WQ.p Q0 (fun w hs => Yl.move Q0) ?_
       refine WQ.run (d := 106) Q0 Q0 ?_
       refine WQ.p Q0 (fun w hs => Yl.move Q0) ?_
       refine WQ.run (d := 106) Q0 Q0 ?_
       refine WQ.p Q0 (fun w hs => Yl.eqb bool4 Q0 Q0) ?_
       refine WQ.p Q0 (fun w hs => Yl.pickT Q0 Q0) ?_
       refine WQ.p Q0 (fun w hs => Yl.move Q0) ?_
       refine WQ.split (d := 111) Q0 (fun h7 => ?_) (fun h7 => ?_)
       ·
        replace h7 := beq_true h7
        refine WQ.run (d := 111) Q0 Q0 ?_
        refine WQ.p Q0 (fun w hs => Yl.loadAB agg45 Q0 hs Q1 Q0 Q0) ?_
        refine WQ.run (d := 111) Q0 Q0 ?_
        refine WQ.p Q0 (fun w hs => Yl.loadAB agg45 Q0 hs Q1 Q0 Q0) ?_
        refine WQ.run (d := 111) Q0 Q0 ?_
        refine WQ.callp Q0 (fun w => Yc.func Q0 fn26) (fun w hs => (c_impl_EqualResponses _ _ _)) (fun _ _ hs hb => hs.ext hb) ?_
        refine WQ.p Q0 (fun w hs => Yl.pickT Q0 Q0) ?_
        refine WQ.p Q0 (fun w hs => Yl.move Q0) ?_
        refine WQ.split (d := 116) Q0 (fun h8 => ?_) (fun h8 => ?_)
        ·
         refine WQ.run (d := 116) Q0 Q0 ?_
         refine WQ.p Q0 (fun w hs => Yl.move Q0) ?_
         refine WQ.run (d := 116) Q0 Q0 ?_
         refine WQ.p Q0 (fun w hs => Yl.not Q0) ?_
         refine WQ.p Q0 (fun w hs => Yl.pickT Q0 Q0) ?_
         refine WQ.p Q0 (fun w hs => Yl.move Q0) ?_
         refine WQ.split (d := 120) Q0 (fun h9 => ?_) (fun h9 => ?_)
         ·
          replace h9 := not_eq_true h9
          refine WQ.run (d := 120) Q0 Q0 ?_
          refine WQ.p Q0 (fun w hs => Yl.loadAB agg41 Q0 hs Q1 Q0 Q0) ?_
          refine WQ.run (d := 120) Q0 Q0 ?_
          refine WQ.callp Q0 (fun w => Yc.func Q0 fn27) (fun w hs => (c_impl_IsCache _ _ (hs.okow (x := x5) (F := F5) Q1) (by show ∀ e ∈ (PCache.lg _).entries, _; exact cache_pol Q7) (by first | assumption | exact Sat.cellm hs (by assumption)))) (fun _ _ hs hb => hs.ext hb) ?_
          refine WQ.p Q0 (fun w hs => Yl.pickT Q0 Q0) ?_
          refine WQ.p Q0 (fun w hs => Yl.move Q0) ?_
          refine WQ.split (d := 124) Q0 (fun h10 => ?_) (fun h10 => ?_)
          ·
           refine WQ.run (d := 124) Q0 Q0 ?_
           refine WQ.p Q0 (fun w hs => Yl.loadAB agg41 Q0 hs Q1 Q0 Q0) ?_
           refine WQ.run (d := 124) Q0 Q0 ?_
           refine WQ.p Q0 (fun w hs => Yl.move Q0) ?_
           refine WQ.run (d := 124) Q0 Q0 ?_
           refine WQ.callp Q0 (fun w => Yc.func Q0 fn28) (fun w hs => (c_impl_FreshEntries _ _ _ (hs.okow (x := x5) (F := F5) Q1))) (fun _ _ hs hb => hs.ext hb) ?_
           refine WQ.run (d := 124) Q0 Q0 ?_
           refine WQ.p Q0 (fun w hs => Yl.geq Q0 Q0) ?_
           refine WQ.p Q0 (fun w hs => Yl.pickT Q0 Q0) ?_
           refine WQ.p Q0 (fun w hs => Yl.move Q0) ?_
           refine WQ.split (d := 130) Q0 (fun h11 => ?_) (fun h11 => ?_)
           ·
            replace h11 := of_decide_eq_true h11
            refine WQ.run (d := 130) Q0 Q0 ?_
            refine WQ.p Q0 (fun w hs => Yl.loadAB agg41 Q0 hs Q1 Q0 Q0) ?_
            refine WQ.run (d := 130) Q0 Q0 ?_
            refine WQ.p Q0 (fun w hs => Yl.move Q0) ?_
            refine WQ.run (d := 130) Q0 Q0 ?_
            refine WQ.callp Q0 (fun w => Yc.func Q0 fn28) (fun w hs => (c_impl_FreshEntries _ _ _ (hs.okow (x := x12) (F := F12) Q1))) (fun _ _ hs hb => hs.ext hb) ?_
            refine WQ.run (d := 130) Q0 Q0 ?_
            refine WQ.p Q0 (fun w hs => Yl.loadAB agg41 Q0 hs Q1 Q0 Q0) ?_
            refine WQ.run (d := 130) Q0 Q0 ?_
            refine WQ.p Q0 (fun w hs => Yl.move Q0) ?_
            refine WQ.run (d := 130) Q0 Q0 ?_
            refine WQ.callp Q0 (fun w => Yc.func Q0 fn28) (fun w hs => (c_impl_FreshEntries _ _ _ (hs.okow (x := x5) (F := F5) Q1))) (fun _ _ hs hb => hs.ext hb) ?_
            refine WQ.run (d := 130) Q0 Q0 ?_
            refine WQ.p Q0 (fun w hs => Yl.lss Q0 Q0) ?_
            refine WQ.p Q0 (fun w hs => Yl.pickT Q0 Q0) ?_
            refine WQ.p Q0 (fun w hs => Yl.assign Q0) ?_
            refine WQ.next ?_
            clear hs; intro w hs
            refine WC.ret ?_
            refine fin1' rfl Q0 ?_
            refine RetP.mk hs ?_
            first
             | rfl
             | (clear hs; simp_all; done)
             | (clear hs; simp_all; omega)
           ·
            replace h11 := of_decide_eq_false h11
            refine WQ.skip (d := 130) Q0 Q0 Q0 Q0 ?_
            refine WQ.skip (d := 130) Q0 Q0 Q0 Q0 ?_
            refine WQ.skip (d := 130) Q0 Q0 Q0 Q0 ?_
            refine WQ.skip (d := 130) Q0 Q0 Q0 Q0 ?_
            refine WQ.skip (d := 130) Q0 Q0 Q0 Q0 ?_
            refine WQ.skip (d := 130) Q0 Q0 Q0 Q0 ?_
            refine WQ.skip (d := 130) Q0 Q0 Q0 Q0 ?_
            refine WQ.p Q0 (fun w hs => Yl.pickF Q0 Q0) ?_
            refine WQ.p Q0 (fun w hs => Yl.assign Q0) ?_
            refine WQ.next ?_
            clear hs; intro w hs
            refine WC.ret ?_
            refine fin1' rfl Q0 ?_
            refine RetP.mk hs ?_
            first
             | rfl
             | (clear hs; simp_all; done)
             | (clear hs; simp_all; omega)
          ·
           refine WQ.skip (d := 124) Q0 Q0 Q0 Q0 ?_
           refine WQ.skip (d := 124) Q0 Q0 Q0 Q0 ?_
           refine WQ.skip (d := 124) Q0 Q0 Q0 Q0 ?_
           refine WQ.skip (d := 124) Q0 Q0 Q0 Q0 ?_
           refine WQ.p Q0 (fun w hs => Yl.pickF Q0 Q0) ?_
           refine WQ.p Q0 (fun w hs => Yl.move Q0) ?_
           refine WQ.skip (d := 130) Q0 Q0 Q0 Q0 ?_
           refine WQ.skip (d := 130) Q0 Q0 Q0 Q0 ?_
           refine WQ.skip (d := 130) Q0 Q0 Q0 Q0 ?_
           refine WQ.skip (d := 130) Q0 Q0 Q0 Q0 ?_
           refine WQ.skip (d := 130) Q0 Q0 Q0 Q0 ?_
           refine WQ.skip (d := 130) Q0 Q0 Q0 Q0 ?_
           refine WQ.skip (d := 130) Q0 Q0 Q0 Q0 ?_
           refine WQ.p Q0 (fun w hs => Yl.pickF Q0 Q0) ?_
           refine WQ.p Q0 (fun w hs => Yl.assign Q0) ?_
           refine WQ.next ?_
           clear hs; intro w hs
           refine WC.ret ?_
           refine fin1' rfl Q0 ?_
           refine RetP.mk hs ?_
           first
            | rfl
            | (clear hs; simp_all; done)
            | (clear hs; simp_all; omega)
         ·
          replace h9 := not_eq_false h9
          refine WQ.skip (d := 120) Q0 Q0 Q0 Q0 ?_
          refine WQ.skip (d := 120) Q0 Q0 Q0 Q0 ?_
          refine WQ.p Q0 (fun w hs => Yl.pickF Q0 Q0) ?_
          refine WQ.p Q0 (fun w hs => Yl.move Q0) ?_
          refine WQ.skip (d := 124) Q0 Q0 Q0 Q0 ?_
          refine WQ.skip (d := 124) Q0 Q0 Q0 Q0 ?_
          refine WQ.skip (d := 124) Q0 Q0 Q0 Q0 ?_
          refine WQ.skip (d := 124) Q0 Q0 Q0 Q0 ?_
          refine WQ.p Q0 (fun w hs => Yl.pickF Q0 Q0) ?_
          refine WQ.p Q0 (fun w hs => Yl.move Q0) ?_
          refine WQ.skip (d := 130) Q0 Q0 Q0 Q0 ?_
          refine WQ.skip (d := 130) Q0 Q0 Q0 Q0 ?_
          refine WQ.skip (d := 130) Q0 Q0 Q0 Q0 ?_
          refine WQ.skip (d := 130) Q0 Q0 Q0 Q0 ?_
          refine WQ.skip (d := 130) Q0 Q0 Q0 Q0 ?_
          refine WQ.skip (d := 130) Q0 Q0 Q0 Q0 ?_
          refine WQ.skip (d := 130) Q0 Q0 Q0 Q0 ?_
          refine WQ.p Q0 (fun w hs => Yl.pickF Q0 Q0) ?_
          refine WQ.p Q0 (fun w hs => Yl.assign Q0) ?_
          refine WQ.next ?_
          clear hs; intro w hs
          refine WC.ret ?_
          refine fin1' rfl Q0 ?_
          refine RetP.mk hs ?_
          first
           | rfl
           | (clear hs; simp_all; done)
           | (clear hs; simp_all; omega)
        ·
         refine WQ.skip (d := 116) Q0 Q0 Q0 Q0 ?_
         refine WQ.skip (d := 116) Q0 Q0 Q0 Q0 ?_
         refine WQ.p Q0 (fun w hs => Yl.pickF Q0 Q0) ?_
         refine WQ.p Q0 (fun w hs => Yl.move Q0) ?_
         refine WQ.skip (d := 120) Q0 Q0 Q0 Q0 ?_
         refine WQ.skip (d := 120) Q0 Q0 Q0 Q0 ?_
         refine WQ.p Q0 (fun w hs => Yl.pickF Q0 Q0) ?_
         refine WQ.p Q0 (fun w hs => Yl.move Q0) ?_
         refine WQ.skip (d := 124) Q0 Q0 Q0 Q0 ?_
         refine WQ.skip (d := 124) Q0 Q0 Q0 Q0 ?_
         refine WQ.skip (d := 124) Q0 Q0 Q0 Q0 ?_
         refine WQ.skip (d := 124) Q0 Q0 Q0 Q0 ?_
         refine WQ.p Q0 (fun w hs => Yl.pickF Q0 Q0) ?_
         refine WQ.p Q0 (fun w hs => Yl.move Q0) ?_
         refine WQ.skip (d := 130) Q0 Q0 Q0 Q0 ?_
         refine WQ.skip (d := 130) Q0 Q0 Q0 Q0 ?_
         refine WQ.skip (d := 130) Q0 Q0 Q0 Q0 ?_
         refine WQ.skip (d := 130) Q0 Q0 Q0 Q0 ?_
         refine WQ.skip (d := 130) Q0 Q0 Q0 Q0 ?_
         refine WQ.skip (d := 130) Q0 Q0 Q0 Q0 ?_
         refine WQ.skip (d := 130) Q0 Q0 Q0 Q0 ?_
         refine WQ.p Q0 (fun w hs => Yl.pickF Q0 Q0) ?_
         refine WQ.p Q0 (fun w hs => Yl.assign Q0) ?_
         refine WQ.next ?_
         clear hs; intro w hs
         refine WC.ret ?_
         refine fin1' rfl Q0 ?_
         refine RetP.mk hs ?_
         first
          | rfl
          | (clear hs; simp_all; done)
          | (clear hs; simp_all; omega)
       ·
        replace h7 := beq_false h7
        refine WQ.skip (d := 111) Q0 Q0 Q0 Q0 ?_
        refine WQ.skip (d := 111) Q0 Q0 Q0 Q0 ?_
        refine WQ.skip (d := 111) Q0 Q0 Q0 Q0 ?_
        refine WQ.p Q0 (fun w hs => Yl.pickF Q0 Q0) ?_
        refine WQ.p Q0 (fun w hs => Yl.move Q0) ?_
        refine WQ.skip (d := 116) Q0 Q0 Q0 Q0 ?_
        refine WQ.skip (d := 116) Q0 Q0 Q0 Q0 ?_
        refine WQ.p Q0 (fun w hs => Yl.pickF Q0 Q0) ?_
        refine WQ.p Q0 (fun w hs => Yl.move Q0) ?_
        refine WQ.skip (d := 120) Q0 Q0 Q0 Q0 ?_
        refine WQ.skip (d := 120) Q0 Q0 Q0 Q0 ?_
        refine WQ.p Q0 (fun w hs => Yl.pickF Q0 Q0) ?_
        refine WQ.p Q0 (fun w hs => Yl.move Q0) ?_
        refine WQ.skip (d := 124) Q0 Q0 Q0 Q0 ?_
        refine WQ.skip (d := 124) Q0 Q0 Q0 Q0 ?_
        refine WQ.skip (d := 124) Q0 Q0 Q0 Q0 ?_
        refine WQ.skip (d := 124) Q0 Q0 Q0 Q0 ?_
        refine WQ.p Q0 (fun w hs => Yl.pickF Q0 Q0) ?_
        refine WQ.p Q0 (fun w hs => Yl.move Q0) ?_
        refine WQ.skip (d := 130) Q0 Q0 Q0 Q0 ?_
        refine WQ.skip (d := 130) Q0 Q0 Q0 Q0 ?_
        refine WQ.skip (d := 130) Q0 Q0 Q0 Q0 ?_
        refine WQ.skip (d := 130) Q0 Q0 Q0 Q0 ?_
        refine WQ.skip (d := 130) Q0 Q0 Q0 Q0 ?_
        refine WQ.skip (d := 130) Q0 Q0 Q0 Q0 ?_
        refine WQ.skip (d := 130) Q0 Q0 Q0 Q0 ?_
        refine WQ.p Q0 (fun w hs => Yl.pickF Q0 Q0) ?_
        refine WQ.p Q0 (fun w hs => Yl.assign Q0) ?_
        refine WQ.next ?_
        clear hs; intro w hs
        refine WC.ret ?_
        refine fin1' rfl Q0 ?_
        refine RetP.mk hs ?_
        first
         | rfl
         | (clear hs; simp_all; done)
         | (clear hs; simp_all; omega)
      ·
       replace h6 := not_eq_false h6
       refine WQ.skip (d := 106) Q0 Q0 Q0 Q0 ?_
       refine WQ.skip (d := 106) Q0 Q0 Q0 Q0 ?_
       refine WQ.skip (d := 106) Q0 Q0 Q0 Q0 ?_
       refine WQ.p Q0 (fun w hs => Yl.pickF Q0 Q0) ?_
       refine WQ.p Q0 (fun w hs => Yl.move Q0) ?_
       refine WQ.skip (d := 111) Q0 Q0 Q0 Q0 ?_
       refine WQ.skip (d := 111) Q0 Q0 Q0 Q0 ?_
       refine WQ.skip (d := 111) Q0 Q0 Q0 Q0 ?_
       refine WQ.p Q0 (fun w hs => Yl.pickF Q0 Q0) ?_
       refine WQ.p Q0 (fun w hs => Yl.move Q0) ?_
       refine WQ.skip (d := 116) Q0 Q0 Q0 Q0 ?_
       refine WQ.skip (d := 116) Q0 Q0 Q0 Q0 ?_
       refine WQ.p Q0 (fun w hs => Yl.pickF Q0 Q0) ?_
       refine WQ.p Q0 (fun w hs => Yl.move Q0) ?_
       refine WQ.skip (d := 120) Q0 Q0 Q0 Q0 ?_
       refine WQ.skip (d := 120) Q0 Q0 Q0 Q0 ?_
       refine WQ.p Q0 (fun w hs => Yl.pickF Q0 Q0) ?_
       refine WQ.p Q0 (fun w hs => Yl.move Q0) ?_
       refine WQ.skip (d := 124) Q0 Q0 Q0 Q0 ?_
       refine WQ.skip (d := 124) Q0 Q0 Q0 Q0 ?_
       refine WQ.skip (d := 124) Q0 Q0 Q0 Q0 ?_
       refine WQ.skip (d := 124) Q0 Q0 Q0 Q0 ?_
       refine WQ.p Q0 (fun w hs => Yl.pickF Q0 Q0) ?_
       refine WQ.p Q0 (fun w hs => Yl.move Q0) ?_
       refine WQ.skip (d := 130) Q0 Q0 Q0 Q0 ?_
       refine WQ.skip (d := 130) Q0 Q0 Q0 Q0 ?_
       refine WQ.skip (d := 130) Q0 Q0 Q0 Q0 ?_
       refine WQ.skip (d := 130) Q0 Q0 Q0 Q0 ?_
       refine WQ.skip (d := 130) Q0 Q0 Q0 Q0 ?_
       refine WQ.skip (d := 130) Q0 Q0 Q0 Q0 ?_
       refine WQ.skip (d := 130) Q0 Q0 Q0 Q0 ?_
       refine WQ.p Q0 (fun w hs => Yl.pickF Q0 Q0) ?_
       refine WQ.p Q0 (fun w hs => Yl.assign Q0) ?_
       refine WQ.next ?_
       clear hs; intro w hs
       refine WC.ret ?_
       refine fin1' rfl Q0 ?_
       refine RetP.mk hs ?_
       first
        | rfl
        | (clear hs; simp_all; done)
        | (clear hs; simp_all; omega)
     ·
      refine WQ.skip (d := 102) Q0 Q0 Q0 Q0 ?_
      refine WQ.skip (d := 102) Q0 Q0 Q0 Q0 ?_
      refine WQ.p Q0 (fun w hs => Yl.pickF Q0 Q0) ?_
      refine WQ.p Q0 (fun w hs => Yl.move Q0) ?_
      refine WQ.skip (d := 106) Q0 Q0 Q0 Q0 ?_
      refine WQ.skip (d := 106) Q0 Q0 Q0 Q0 ?_
      refine WQ.skip (d := 106) Q0 Q0 Q0 Q0 ?_
      refine WQ.p Q0 (fun w hs => Yl.pickF Q0 Q0) ?_
      refine WQ.p Q0 (fun w hs => Yl.move Q0) ?_
      refine WQ.skip (d := 111) Q0 Q0 Q0 Q0 ?_
      refine WQ.skip (d := 111) Q0 Q0 Q0 Q0 ?_
      refine WQ.skip (d := 111) Q0 Q0 Q0 Q0 ?_
      refine WQ.p Q0 (fun w hs => Yl.pickF Q0 Q0) ?_
      refine WQ.p Q0 (fun w hs => Yl.move Q0) ?_
      refine WQ.skip (d := 116) Q0 Q0 Q0 Q0 ?_
      refine WQ.skip (d := 116) Q0 Q0 Q0 Q0 ?_
      refine WQ.p Q0 (fun w hs => Yl.pickF Q0 Q0) ?_
      refine WQ.p Q0 (fun w hs => Yl.move Q0) ?_
      refine WQ.skip (d := 120) Q0 Q0 Q0 Q0 ?_
      refine WQ.skip (d := 120) Q0 Q0 Q0 Q0 ?_
      refine WQ.p Q0 (fun w hs => Yl.pickF Q0 Q0) ?_
      refine WQ.p Q0 (fun w hs => Yl.move Q0) ?_
      refine WQ.skip (d := 124) Q0 Q0 Q0 Q0 ?_
      refine WQ.skip (d := 124) Q0 Q0 Q0 Q0 ?_
      refine WQ.skip (d := 124) Q0 Q0 Q0 Q0 ?_
      refine WQ.skip (d := 124) Q0 Q0 Q0 Q0 ?_
      refine WQ.p Q0 (fun w hs => Yl.pickF Q0 Q0) ?_
      refine WQ.p Q0 (fun w hs => Yl.move Q0) ?_
      refine WQ.skip (d := 130) Q0 Q0 Q0 Q0 ?_
      refine WQ.skip (d := 130) Q0 Q0 Q0 Q0 ?_
      refine WQ.skip (d := 130) Q0 Q0 Q0 Q0 ?_
      refine WQ.skip (d := 130) Q0 Q0 Q0 Q0 ?_
      refine WQ.skip (d := 130) Q0 Q0 Q0 Q0 ?_
      refine WQ.skip (d := 130) Q0 Q0 Q0 Q0 ?_
      refine WQ.skip (d := 130) Q0 Q0 Q0 Q0 ?_
      refine WQ.p Q0 (fun w hs => Yl.pickF Q0 Q0) ?_
      refine WQ.p Q0 (fun w hs => Yl.assign Q0) ?_
      refine WQ.next ?_
      clear hs; intro w hs
      refine WC.ret ?_
      refine fin1' rfl Q0 ?_
      refine RetP.mk hs ?_
      first
       | rfl
       | (clear hs; simp_all; done)
       | (clear hs; simp_all; omega)
    ·
     refine WQ.skip (d := 97) Q0 Q0 Q0 Q0 ?_
     refine WQ.skip (d := 97) Q0 Q0 Q0 Q0 ?_
     refine WQ.skip (d := 97) Q0 Q0 Q0 Q0 ?_
     refine WQ.p Q0 (fun w hs => Yl.pickF Q0 Q0) ?_
     refine WQ.p Q0 (fun w hs => Yl.move Q0) ?_
     refine WQ.skip (d := 102) Q0 Q0 Q0 Q0 ?_
     refine WQ.skip (d := 102) Q0 Q0 Q0 Q0 ?_
     refine WQ.p Q0 (fun w hs => Yl.pickF Q0 Q0) ?_
     refine WQ.p Q0 (fun w hs => Yl.move Q0) ?_
     refine WQ.skip (d := 106) Q0 Q0 Q0 Q0 ?_
     refine WQ.skip (d := 106) Q0 Q0 Q0 Q0 ?_
     refine WQ.skip (d := 106) Q0 Q0 Q0 Q0 ?_
     refine WQ.p Q0 (fun w hs => Yl.pickF Q0 Q0) ?_
     refine WQ.p Q0 (fun w hs => Yl.move Q0) ?_
     refine WQ.skip (d := 111) Q0 Q0 Q0 Q0 ?_
     refine WQ.skip (d := 111) Q0 Q0 Q0 Q0 ?_
     refine WQ.skip (d := 111) Q0 Q0 Q0 Q0 ?_
     refine WQ.p Q0 (fun w hs => Yl.pickF Q0 Q0) ?_
     refine WQ.p Q0 (fun w hs => Yl.move Q0) ?_
     refine WQ.skip (d := 116) Q0 Q0 Q0 Q0 ?_
     refine WQ.skip (d := 116) Q0 Q0 Q0 Q0 ?_
     refine WQ.p Q0 (fun w hs => Yl.pickF Q0 Q0) ?_
     refine WQ.p Q0 (fun w hs => Yl.move Q0) ?_
     refine WQ.skip (d := 120) Q0 Q0 Q0 Q0 ?_
     refine WQ.skip (d := 120) Q0 Q0 Q0 Q0 ?_
     refine WQ.p Q0 (fun w hs => Yl.pickF Q0 Q0) ?_
     refine WQ.p Q0 (fun w hs => Yl.move Q0) ?_
     refine WQ.skip (d := 124) Q0 Q0 Q0 Q0 ?_
     refine WQ.skip (d := 124) Q0 Q0 Q0 Q0 ?_
     refine WQ.skip (d := 124) Q0 Q0 Q0 Q0 ?_
     refine WQ.skip (d := 124) Q0 Q0 Q0 Q0 ?_
     refine WQ.p Q0 (fun w hs => Yl.pickF Q0 Q0) ?_
     refine WQ.p Q0 (fun w hs => Yl.move Q0) ?_
     refine WQ.skip (d := 130) Q0 Q0 Q0 Q0 ?_
     refine WQ.skip (d := 130) Q0 Q0 Q0 Q0 ?_
     refine WQ.skip (d := 130) Q0 Q0 Q0 Q0 ?_
     refine WQ.skip (d := 130) Q0 Q0 Q0 Q0 ?_
     refine WQ.skip (d := 130) Q0 Q0 Q0 Q0 ?_
     refine WQ.skip (d := 130) Q0 Q0 Q0 Q0 ?_
     refine WQ.skip (d := 130) Q0 Q0 Q0 Q0 ?_
     refine WQ.p Q0 (fun w hs => Yl.pickF Q0 Q0) ?_
     refine WQ.p Q0 (fun w hs => Yl.assign Q0) ?_
     refine WQ.next ?_
     clear hs; intro w hs
     refine WC.ret ?_
     refine fin1' rfl Q0 ?_
     refine RetP.mk hs ?_
     first
      | rfl
      | (clear hs; simp_all; done)
      | (clear hs; simp_all; omega)

end Go.Sw
