/- Walks: what each function of the program returns, for every input. Printed by gen.py. -/
import Derived.Test.YtpnmdcomdakdmaaGreatDoorW2
set_option linter.all false
namespace Go.Sw
open Go Go.RowKit Go.Proofs

theorem c_slices_IndexFunc___string_string_ (s : (Sl Str)) (f : FuncId) (us_f : List Value) (p_f : Str → Bool) (w : World) (h_s : Ph.ok w s)  (hfn_f : FN Tryz.prog f) (hf_f : ∀ x ∈ s.l, ∀ w', Below w.heap.size w w' → Calls Tryz.prog f (([S x] : List Value) ++ us_f).toArray w' (RetP w' (Bo (p_f x)))) : Calls Tryz.prog 379 [Sl.v s, .func (.func f) #[] us_f.toArray].toArray w (RetP w (I (idxF (p_f) s.l 0))) := by
 have hw := h_s.lt
 refine enterN 19 Tryz.func379 rfl rfl rfl ?_
 have hs := Sat.start w
 refine WC.seq ?_
 refine Qa ?_
 refine WL.next ?_
 refine WC.seq' ?_
 refine WC.seq ?_
 refine Qm ?_
 refine WL.p Q0 (Yl.len_sl slu34 Q0) ?_
 refine Qm ?_
 refine WL.next ?_
 refine WC.block ?_
 refine WC.loopC (ι := Nat) (fun k => s.l.length - k) (fun k => [(8, I (k : Int))]) (fun _ => []) (fun k => idxF (p_f) s.l 0 = idxF (p_f) (s.l.drop k) k) [(0, _), (1, _), (7, _)] 0 (hs) ⟨by rfl, by rfl, by rfl, trivial⟩ ⟨by rfl, trivial⟩ ?_ ?_
 ·
  simp
 clear hs; rintro k w hJ hs
 simp only [List.nil_append] at hs
 refine WC.seq ?_
 refine WL.p Q0 (Yl.lss Q0 Q0) ?_
 refine WL.next ?_
 refine WC.seq' ?_
 refine WC.condS Q0 (fun h1 => ?_) (fun h1 => ?_)
 ·
  replace h1 := of_decide_eq_true h1
  obtain ⟨d, hd⟩ := exists_get (l := s.l) (k := k) Q7
  rw [drop_cons hd] at hJ
  refine WC.skipn ?_
  refine WC.seq' ?_
  refine WC.block ?_
  refine WC.seq ?_
  refine Qm ?_
  refine Qa ?_
  refine WL.next ?_
  refine WC.seq ?_
  refine Qm ?_
  refine Qm ?_
  refine Qm ?_
  refine WL.p Q0 (Yl.indexAddr slt34 Q0 Q0 (Ph.old h_s hs) Q0 (hd)) ?_
  refine WL.p Q0 (Yl.loadC0 sca9 Q0 (Sl.Ok.at_ (Ph.old h_s hs) (by assumption)).2 Q0) ?_
  refine WL.callp hs Q0 (Yc.value Q0 Q0 hfn_f Q0) (hf_f _ (List.mem_of_getElem? (by assumption)) _ hs.below) ?_
  clear hs; intro w hs
  refine WL.next ?_
  refine WC.condS Q0 (fun h2 => ?_) (fun h2 => ?_)
  ·
   refine WC.seq ?_
   refine Qm ?_
   refine Qa ?_
   refine WL.next ?_
   refine WC.ret ?_
   refine At.blockret ?_
   refine At.thenret ?_
   refine At.thenret ?_
   refine At.blockret ?_
   refine At.thenret ?_
   refine fin1' rfl Q0 ?_
   refine RetP.mk hs ?_
   rw [hJ]; simp_all [idxF]
  ·
   refine WC.skip ?_
   refine At.blocknormal ?_
   refine At.then_ ?_
   refine WC.region ?_
   refine WL.p Q0 (Yl.add Q0 Q0 Q7) ?_
   refine Qm ?_
   refine WL.nil ?_
   refine At.roundC (k + 1) (hs.only Q2) ⟨by rfl, by rfl, by rfl, trivial⟩ ⟨by rfl, trivial⟩ ?_ ?_
   ·
    omega
   ·
    rw [hJ]; simp_all [idxF]
 ·
  replace h1 := of_decide_eq_false h1
  rw [drop_out (l := s.l) Q7] at hJ
  refine WC.exit ?_
  refine At.thenexit ?_
  refine At.thenexit ?_
  refine At.blockexit ?_
  refine At.then_ ?_
  refine WC.seq ?_
  refine Qa ?_
  refine WL.next ?_
  refine WC.ret ?_
  refine fin1' rfl Q0 ?_
  refine RetP.mk hs ?_
  rw [hJ]; simp_all [idxF]

theorem c_slices_ContainsFunc___string_string_ (s : (Sl Str)) (f : FuncId) (us_f : List Value) (p_f : Str → Bool) (w : World) (h_s : Ph.ok w s)  (hfn_f : FN Tryz.prog f) (hf_f : ∀ x ∈ s.l, ∀ w', Below w.heap.size w w' → Calls Tryz.prog f (([S x] : List Value) ++ us_f).toArray w' (RetP w' (Bo (p_f x)))) : Calls Tryz.prog 369 [Sl.v s, .func (.func f) #[] us_f.toArray].toArray w (RetP w (Bo (s.l.any p_f))) := by
 refine enterN 9 Tryz.func369 rfl rfl rfl ?_
 have hs := Sat.start w
 refine WC.seq ?_
 refine Qa ?_
 refine WL.next ?_
 refine WC.seq ?_
 refine Qm ?_
 refine Qm ?_
 refine WL.callp hs Q0 (Yc.func Q0 fn379) (c_slices_IndexFunc___string_string_ _ _ _ p_f _ (Ph.old h_s hs) hfn_f (fun x hx w1 hb1 => hf_f x hx w1 (hs.ext hb1).below)) ?_
 clear hs; intro w hs
 refine WL.p Q0 (Yl.geq Q0 Q0) ?_
 refine Qa ?_
 refine WL.next ?_
 refine WC.ret ?_
 refine fin1' rfl Q0 ?_
 refine RetP.mk hs ?_
 simp only [ge_iff_le, idxF_any]

theorem c_impl_areHosts_1 (s : Str) (w : World) (h_s : Ph.ok w s)  : Calls Tryz.prog 370 [S s].toArray w (RetP w (Bo (!isName s))) := by
 refine enterN 6 Tryz.func370 rfl rfl rfl ?_
 have hs := Sat.start w
 refine WC.seq ?_
 refine Qa ?_
 refine WL.next ?_
 refine WC.seq ?_
 refine Qm ?_
 refine WL.callp hs Q0 (Yc.func Q0 fn106) (c_impl_IsName _ _ (Ph.old h_s hs)) ?_
 clear hs; intro w hs
 refine WL.p Q0 (Yl.not Q0) ?_
 refine Qa ?_
 refine WL.next ?_
 refine WC.ret ?_
 refine fin1' rfl Q0 ?_
 refine RetP.mk hs ?_
 simp_all

theorem c_impl_areHosts (l : (Sl Str)) (w : World) (h_l : Ph.ok w l)  : Calls Tryz.prog 354 [Sl.v l].toArray w (RetP w (Bo (hosts l.l))) := by
 have hw := h_l.lt
 refine enterN 11 Tryz.func354 rfl rfl rfl ?_
 have hs := Sat.start w
 refine WC.seq ?_
 refine Qa ?_
 refine WL.next ?_
 refine WC.seq ?_
 refine Qm ?_
 refine WL.p Q0 (Yl.len_sl slu34 Q0) ?_
 refine WL.p Q0 (Yl.leq Q0 Q0) ?_
 refine Qm ?_
 refine WL.split (d := 6) Q0 (fun h1 => ?_) (fun h1 => ?_)
 ·
  replace h1 := of_decide_eq_true h1
  refine WL.run (d := 6) Q0 Q0 ?_
  refine Qm ?_
  refine WL.run (d := 6) Q0 Q0 ?_
  refine WL.callp hs Q0 (Yc.func Q0 fn369) (c_slices_ContainsFunc___string_string_ _ 370 _ (fun x => !isName x) _ (Ph.old h_l hs) fn370 (fun x hx w1 hb1 => c_impl_areHosts_1 x w1 (Ph.ext hb1 ((Ph.old h_l hs).elems x hx)))) ?_
  clear hs; intro w hs
  refine WL.run (d := 6) Q0 Q0 ?_
  refine WL.p Q0 (Yl.not Q0) ?_
  refine WL.p Q0 (Yl.pickT Q0 Q0) ?_
  refine Qa ?_
  refine WL.next ?_
  refine WC.ret ?_
  refine fin1' rfl Q0 ?_
  refine RetP.mk hs ?_
  rw [any_not_all]
  simp [hosts]; omega
 ·
  replace h1 := of_decide_eq_false h1
  refine WL.skip (d := 6) Q0 Q0 Q0 Q0 ?_
  refine WL.skip (d := 6) Q0 Q0 Q0 Q0 ?_
  refine WL.skip (d := 6) Q0 Q0 Q0 Q0 ?_
  refine WL.p Q0 (Yl.pickF Q0 Q0) ?_
  refine Qa ?_
  refine WL.next ?_
  refine WC.ret ?_
  refine fin1' rfl Q0 ?_
  refine RetP.mk hs ?_
  simp [hosts]; omega

theorem c_impl_IsPolicy (p : PPolicy) (w : World) (h_p : Ph.ok w p)  : Calls Tryz.prog 326 [.agg #[Bo p.set, Sl.v p.scripts, Sl.v p.styles, Sl.v p.images, S p.nonce]].toArray w (RetP w (Bo (p.lg.is))) := by
 refine enterN 50 Tryz.func326 rfl rfl rfl ?_
 have hs := Sat.start w
 refine WC.seq ?_
 refine WL.r Q0 (Yr.box hs Q0 Q0) ?_
 clear hs; rintro _ w ⟨b1, rfl, hb, hs⟩; clear hb
 refine Qa ?_
 refine WL.next ?_
 refine WC.seq' ?_
 refine WC.seq ?_
 refine WL.p Q0 (Yl.fieldAddr fa108_0 Q0) ?_
 refine WL.p Q0 (Yl.loadB sca4 Q0 hs Q1 Q0) ?_
 refine WL.p Q0 (Yl.not Q0) ?_
 refine WL.next ?_
 refine WC.condS Q0 (fun h1 => ?_) (fun h1 => ?_)
 ·
  replace h1 := not_eq_true h1
  refine WC.seq ?_
  refine WL.p Q0 (Yl.fieldAddr fa108_1 Q0) ?_
  refine WL.p Q0 (Yl.loadB sca34 Q0 hs Q1 Q0) ?_
  refine WL.p Q0 (Yl.len_sl slu34 Q0) ?_
  refine WL.p Q0 (Yl.eqi Q0 Q0) ?_
  refine Qm ?_
  refine WL.split (d := 10) Q0 (fun h2 => ?_) (fun h2 => ?_)
  ·
   replace h2 := of_decide_eq_true h2
   refine WL.run (d := 10) Q0 Q0 ?_
   refine WL.p Q0 (Yl.fieldAddr fa108_2 Q0) ?_
   refine WL.run (d := 10) Q0 Q0 ?_
   refine WL.p Q0 (Yl.loadB sca34 Q0 hs Q1 Q0) ?_
   refine WL.run (d := 10) Q0 Q0 ?_
   refine WL.p Q0 (Yl.len_sl slu34 Q0) ?_
   refine WL.run (d := 10) Q0 Q0 ?_
   refine WL.p Q0 (Yl.eqi Q0 Q0) ?_
   refine WL.p Q0 (Yl.pickT Q0 Q0) ?_
   refine Qm ?_
   refine WL.split (d := 16) Q0 (fun h3 => ?_) (fun h3 => ?_)
   ·
    replace h3 := of_decide_eq_true h3
    refine WL.run (d := 16) Q0 Q0 ?_
    refine WL.p Q0 (Yl.fieldAddr fa108_3 Q0) ?_
    refine WL.run (d := 16) Q0 Q0 ?_
    refine WL.p Q0 (Yl.loadB sca34 Q0 hs Q1 Q0) ?_
    refine WL.run (d := 16) Q0 Q0 ?_
    refine WL.p Q0 (Yl.len_sl slu34 Q0) ?_
    refine WL.run (d := 16) Q0 Q0 ?_
    refine WL.p Q0 (Yl.eqi Q0 Q0) ?_
    refine WL.p Q0 (Yl.pickT Q0 Q0) ?_
    refine Qm ?_
    refine WL.split (d := 22) Q0 (fun h4 => ?_) (fun h4 => ?_)
    ·
     replace h4 := of_decide_eq_true h4
     refine WL.run (d := 22) Q0 Q0 ?_
     refine WL.p Q0 (Yl.fieldAddr fa108_4 Q0) ?_
     refine WL.run (d := 22) Q0 Q0 ?_
     refine WL.p Q0 (Yl.loadB sca9 Q0 hs Q1 Q0) ?_
     refine WL.run (d := 22) Q0 Q0 ?_
     refine WL.p Q0 (Yl.eqs Q0 Q0) ?_
     refine WL.p Q0 (Yl.pickT Q0 Q0) ?_
     refine Qa ?_
     refine WL.next ?_
     refine WC.ret ?_
     refine At.thenret ?_
     refine fin1' rfl Q0 ?_
     refine RetP.mk hs ?_
     simp_all [TPolicy.is]
    ·
     replace h4 := of_decide_eq_false h4
     refine WL.skip (d := 22) Q0 Q0 Q0 Q0 ?_
     refine WL.skip (d := 22) Q0 Q0 Q0 Q0 ?_
     refine WL.skip (d := 22) Q0 Q0 Q0 Q0 ?_
     refine WL.p Q0 (Yl.pickF Q0 Q0) ?_
     refine Qa ?_
     refine WL.next ?_
     refine WC.ret ?_
     refine At.thenret ?_
     refine fin1' rfl Q0 ?_
     refine RetP.mk hs ?_
     simp_all [TPolicy.is]
   ·
    replace h3 := of_decide_eq_false h3
    refine WL.skip (d := 16) Q0 Q0 Q0 Q0 ?_
    refine WL.skip (d := 16) Q0 Q0 Q0 Q0 ?_
    refine WL.skip (d := 16) Q0 Q0 Q0 Q0 ?_
    refine WL.skip (d := 16) Q0 Q0 Q0 Q0 ?_
    refine WL.p Q0 (Yl.pickF Q0 Q0) ?_
    refine Qm ?_
    refine WL.skip (d := 22) Q0 Q0 Q0 Q0 ?_
    refine WL.skip (d := 22) Q0 Q0 Q0 Q0 ?_
    refine WL.skip (d := 22) Q0 Q0 Q0 Q0 ?_
    refine WL.p Q0 (Yl.pickF Q0 Q0) ?_
    refine Qa ?_
    refine WL.next ?_
    refine WC.ret ?_
    refine At.thenret ?_
    refine fin1' rfl Q0 ?_
    refine RetP.mk hs ?_
    simp_all [TPolicy.is]
  ·
   replace h2 := of_decide_eq_false h2
   refine WL.skip (d := 10) Q0 Q0 Q0 Q0 ?_
   refine WL.skip (d := 10) Q0 Q0 Q0 Q0 ?_
   refine WL.skip (d := 10) Q0 Q0 Q0 Q0 ?_
   refine WL.skip (d := 10) Q0 Q0 Q0 Q0 ?_
   refine WL.p Q0 (Yl.pickF Q0 Q0) ?_
   refine Qm ?_
   refine WL.skip (d := 16) Q0 Q0 Q0 Q0 ?_
   refine WL.skip (d := 16) Q0 Q0 Q0 Q0 ?_
   refine WL.skip (d := 16) Q0 Q0 Q0 Q0 ?_
   refine WL.skip (d := 16) Q0 Q0 Q0 Q0 ?_
   refine WL.p Q0 (Yl.pickF Q0 Q0) ?_
   refine Qm ?_
   refine WL.skip (d := 22) Q0 Q0 Q0 Q0 ?_
   refine WL.skip (d := 22) Q0 Q0 Q0 Q0 ?_
   refine WL.skip (d := 22) Q0 Q0 Q0 Q0 ?_
   refine WL.p Q0 (Yl.pickF Q0 Q0) ?_
   refine Qa ?_
   refine WL.next ?_
   refine WC.ret ?_
   refine At.thenret ?_
   refine fin1' rfl Q0 ?_
   refine RetP.mk hs ?_
   simp_all [TPolicy.is]
 ·
  replace h1 := not_eq_false h1
  refine WC.skipn ?_
  refine WC.seq ?_
  refine WL.p Q0 (Yl.fieldAddr fa108_1 Q0) ?_
  refine WL.p Q0 (Yl.loadB sca34 Q0 hs Q1 Q0) ?_
  refine WL.callp hs Q0 (Yc.func Q0 fn354) (c_impl_areHosts _ _ (Ph.old h_p.scripts hs)) ?_
  clear hs; intro w hs
  refine Qm ?_
  refine WL.split (d := 30) Q0 (fun h2 => ?_) (fun h2 => ?_)
  ·
   refine WL.run (d := 30) Q0 Q0 ?_
   refine WL.p Q0 (Yl.fieldAddr fa108_2 Q0) ?_
   refine WL.run (d := 30) Q0 Q0 ?_
   refine WL.p Q0 (Yl.loadB sca34 Q0 hs Q1 Q0) ?_
   refine WL.run (d := 30) Q0 Q0 ?_
   refine WL.callp hs Q0 (Yc.func Q0 fn354) (c_impl_areHosts _ _ (Ph.old h_p.styles hs)) ?_
   clear hs; intro w hs
   refine WL.p Q0 (Yl.pickT Q0 Q0) ?_
   refine Qm ?_
   refine WL.split (d := 35) Q0 (fun h3 => ?_) (fun h3 => ?_)
   ·
    refine WL.run (d := 35) Q0 Q0 ?_
    refine WL.p Q0 (Yl.fieldAddr fa108_3 Q0) ?_
    refine WL.run (d := 35) Q0 Q0 ?_
    refine WL.p Q0 (Yl.loadB sca34 Q0 hs Q1 Q0) ?_
    refine WL.run (d := 35) Q0 Q0 ?_
    refine WL.callp hs Q0 (Yc.func Q0 fn354) (c_impl_areHosts _ _ (Ph.old h_p.images hs)) ?_
    clear hs; intro w hs
    refine WL.p Q0 (Yl.pickT Q0 Q0) ?_
    refine Qm ?_
    refine WL.split (d := 40) Q0 (fun h4 => ?_) (fun h4 => ?_)
    ·
     refine WL.run (d := 40) Q0 Q0 ?_
     refine WL.p Q0 (Yl.fieldAddr fa108_4 Q0) ?_
     refine WL.run (d := 40) Q0 Q0 ?_
     refine WL.p Q0 (Yl.loadB sca9 Q0 hs Q1 Q0) ?_
     refine WL.run (d := 40) Q0 Q0 ?_
     refine WL.p Q0 (Yl.eqs Q0 Q0) ?_
     refine WL.run (d := 40) Q0 Q0 ?_
     refine Qm ?_
     refine WL.split (d := 44) Q0 (fun h5 => ?_) (fun h5 => ?_)
     ·
      replace h5 := of_decide_eq_true h5
      refine WL.skip (d := 44) Q0 Q0 Q0 Q0 ?_
      refine WL.skip (d := 44) Q0 Q0 Q0 Q0 ?_
      refine WL.skip (d := 44) Q0 Q0 Q0 Q0 ?_
      refine WL.run (d := 40) Q0 Q0 ?_
      refine WL.p Q0 (Yl.pickT Q0 Q0) ?_
      refine WL.p Q0 (Yl.pickT Q0 Q0) ?_
      refine Qa ?_
      refine WL.next ?_
      refine WC.ret ?_
      refine fin1' rfl Q0 ?_
      refine RetP.mk hs ?_
      simp_all [TPolicy.is]
     ·
      replace h5 := of_decide_eq_false h5
      refine WL.run (d := 44) Q0 Q0 ?_
      refine WL.p Q0 (Yl.fieldAddr fa108_4 Q0) ?_
      refine WL.run (d := 44) Q0 Q0 ?_
      refine WL.p Q0 (Yl.loadB sca9 Q0 hs Q1 Q0) ?_
      refine WL.run (d := 44) Q0 Q0 ?_
      refine WL.callp hs Q0 (Yc.func Q0 fn234) (c_impl_IsValue _ _ (Ph.old h_p.nonce hs)) ?_
      clear hs; intro w hs
      refine WL.run (d := 40) Q0 Q0 ?_
      refine WL.p Q0 (Yl.pickF Q0 Q0) ?_
      refine WL.p Q0 (Yl.pickT Q0 Q0) ?_
      refine Qa ?_
      refine WL.next ?_
      refine WC.ret ?_
      refine fin1' rfl Q0 ?_
      refine RetP.mk hs ?_
      simp_all [TPolicy.is]
    ·
     refine WL.skip (d := 40) Q0 Q0 Q0 Q0 ?_
     refine WL.skip (d := 40) Q0 Q0 Q0 Q0 ?_
     refine WL.skip (d := 40) Q0 Q0 Q0 Q0 ?_
     refine WL.skip (d := 40) Q0 Q0 Q0 Q0 ?_
     refine WL.skipU (d := 44) Q0 Q0 Q0 ?_
     refine WL.skipU (d := 44) Q0 Q0 Q0 ?_
     refine WL.skipU (d := 44) Q0 Q0 Q0 ?_
     refine WL.skip (d := 40) Q0 Q0 Q0 Q0 ?_
     refine WL.p Q0 (Yl.pickF Q0 Q0) ?_
     refine Qa ?_
     refine WL.next ?_
     refine WC.ret ?_
     refine fin1' rfl Q0 ?_
     refine RetP.mk hs ?_
     simp_all [TPolicy.is]
   ·
    refine WL.skip (d := 35) Q0 Q0 Q0 Q0 ?_
    refine WL.skip (d := 35) Q0 Q0 Q0 Q0 ?_
    refine WL.skip (d := 35) Q0 Q0 Q0 Q0 ?_
    refine WL.p Q0 (Yl.pickF Q0 Q0) ?_
    refine Qm ?_
    refine WL.skip (d := 40) Q0 Q0 Q0 Q0 ?_
    refine WL.skip (d := 40) Q0 Q0 Q0 Q0 ?_
    refine WL.skip (d := 40) Q0 Q0 Q0 Q0 ?_
    refine WL.skip (d := 40) Q0 Q0 Q0 Q0 ?_
    refine WL.skipU (d := 44) Q0 Q0 Q0 ?_
    refine WL.skipU (d := 44) Q0 Q0 Q0 ?_
    refine WL.skipU (d := 44) Q0 Q0 Q0 ?_
    refine WL.skip (d := 40) Q0 Q0 Q0 Q0 ?_
    refine WL.p Q0 (Yl.pickF Q0 Q0) ?_
    refine Qa ?_
    refine WL.next ?_
    refine WC.ret ?_
    refine fin1' rfl Q0 ?_
    refine RetP.mk hs ?_
    simp_all [TPolicy.is]
  ·
   refine WL.skip (d := 30) Q0 Q0 Q0 Q0 ?_
   refine WL.skip (d := 30) Q0 Q0 Q0 Q0 ?_
   refine WL.skip (d := 30) Q0 Q0 Q0 Q0 ?_
   refine WL.p Q0 (Yl.pickF Q0 Q0) ?_
   refine Qm ?_
   refine WL.skip (d := 35) Q0 Q0 Q0 Q0 ?_
   refine WL.skip (d := 35) Q0 Q0 Q0 Q0 ?_
   refine WL.skip (d := 35) Q0 Q0 Q0 Q0 ?_
   refine WL.p Q0 (Yl.pickF Q0 Q0) ?_
   refine Qm ?_
   refine WL.skip (d := 40) Q0 Q0 Q0 Q0 ?_
   refine WL.skip (d := 40) Q0 Q0 Q0 Q0 ?_
   refine WL.skip (d := 40) Q0 Q0 Q0 Q0 ?_
   refine WL.skip (d := 40) Q0 Q0 Q0 Q0 ?_
   refine WL.skipU (d := 44) Q0 Q0 Q0 ?_
   refine WL.skipU (d := 44) Q0 Q0 Q0 ?_
   refine WL.skipU (d := 44) Q0 Q0 Q0 ?_
   refine WL.skip (d := 40) Q0 Q0 Q0 Q0 ?_
   refine WL.p Q0 (Yl.pickF Q0 Q0) ?_
   refine Qa ?_
   refine WL.next ?_
   refine WC.ret ?_
   refine fin1' rfl Q0 ?_
   refine RetP.mk hs ?_
   simp_all [TPolicy.is]

theorem c_impl_FormatPolicy (p : PPolicy) (w : World) (h_p : Ph.ok w p) (hb : p.lg.size ≤ 2097152) : Calls Tryz.prog 275 [.agg #[Bo p.set, Sl.v p.scripts, Sl.v p.styles, Sl.v p.images, S p.nonce]].toArray w (RetP w (S (fmtPolicy p.lg))) := by
 refine enterN 40 Tryz.func275 rfl rfl rfl ?_
 have hs := Sat.start w
 refine WC.seq ?_
 refine WL.r Q0 (Yr.box hs Q0 Q0) ?_
 clear hs; rintro _ w ⟨b1, rfl, hb, hs⟩; clear hb
 refine Qa ?_
 refine WL.next ?_
 refine WC.seq' ?_
 refine WC.seq ?_
 refine WL.p Q0 (Yl.loadAB agg108 Q0 hs Q1 Q0 Q0) ?_
 refine WL.callp hs Q0 (Yc.func Q0 fn326) (c_impl_IsPolicy _ _ (Ph.old h_p hs)) ?_
 clear hs; intro w hs
 refine WL.p Q0 (Yl.not Q0) ?_
 refine Qm ?_
 refine WL.split (d := 7) Q0 (fun h1 => ?_) (fun h1 => ?_)
 ·
  replace h1 := not_eq_true h1
  refine WL.skip (d := 7) Q0 Q0 Q0 Q0 ?_
  refine WL.skip (d := 7) Q0 Q0 Q0 Q0 ?_
  refine WL.skip (d := 7) Q0 Q0 Q0 Q0 ?_
  refine WL.p Q0 (Yl.pickT Q0 Q0) ?_
  refine WL.next ?_
  refine WC.condT Q0 ?_
  refine WC.seq ?_
  refine Qa ?_
  refine WL.next ?_
  refine WC.ret ?_
  refine At.thenret ?_
  refine fin1' rfl Q0 ?_
  refine RetP.mk hs ?_
  first
   | (simp [fmtPolicy, h1]; done)
   | (simp [fmtPolicy, h2]; done)
   | (simp [fmtPolicy, h1, h2, h3, wordsText]; done)
 ·
  replace h1 := not_eq_false h1
  refine WL.run (d := 7) Q0 Q0 ?_
  refine WL.p Q0 (Yl.fieldAddr fa108_0 Q0) ?_
  refine WL.run (d := 7) Q0 Q0 ?_
  refine WL.p Q0 (Yl.loadB sca4 Q0 hs Q1 Q0) ?_
  refine WL.run (d := 7) Q0 Q0 ?_
  refine WL.p Q0 (Yl.not Q0) ?_
  refine WL.p Q0 (Yl.pickF Q0 Q0) ?_
  refine WL.next ?_
  refine WC.condS Q0 (fun h2 => ?_) (fun h2 => ?_)
  ·
   replace h2 := not_eq_true h2
   refine WC.seq ?_
   refine Qa ?_
   refine WL.next ?_
   refine WC.ret ?_
   refine At.thenret ?_
   refine fin1' rfl Q0 ?_
   refine RetP.mk hs ?_
   first
    | (simp [fmtPolicy, h1]; done)
    | (simp [fmtPolicy, h2]; done)
    | (simp [fmtPolicy, h1, h2, h3, wordsText]; done)
  ·
   replace h2 := not_eq_false h2
   refine WC.skipn ?_
   refine WC.anyn mixed hs ?_
   clear hs; intro w hs
   refine WA.p (i := 1) Q0 Q6 Q6 Q6 Q0 (hs.only Q2) (fun w hs => Yl.fieldAddr fa108_1 Q0) ?_
   refine WA.p (i := 2) Q0 Q6 Q6 Q6 Q0 (hs.only Q2) (fun w hs => Yl.loadB sca34 Q0 hs Q1 Q0) ?_
   refine WA.p (i := 7) Q0 Q6 Q6 Q6 Q0 (hs.only Q2) (fun w hs => Yl.fieldAddr fa108_2 Q0) ?_
   refine WA.p (i := 8) Q0 Q6 Q6 Q6 Q0 (hs.only Q2) (fun w hs => Yl.loadB sca34 Q0 hs Q1 Q0) ?_
   refine WA.p (i := 14) Q0 Q6 Q6 Q6 Q0 (hs.only Q2) (fun w hs => Yl.fieldAddr fa108_3 Q0) ?_
   refine WA.p (i := 15) Q0 Q6 Q6 Q6 Q0 (hs.only Q2) (fun w hs => Yl.loadB sca34 Q0 hs Q1 Q0) ?_
   refine WA.dag' [(⟨0, 12, [], (fun _ v cs => ∃ b, v = .slice (some ⟨b, 0, none⟩) 1 1 ∧ cs = [box b 9 (([S (([115, 99, 114, 105, 112, 116] : Str))]))])⟩, []), (⟨3, 15, [], (fun _ v cs => ∃ (x : Sl Str) (F : List Nat), v = x.v ∧ cs = [ow x F] ∧ x.l = [([115, 99, 114, 105, 112, 116] : Str)] ++ p.scripts.l)⟩, [(0, true)]), (⟨4, 16, [], (fun _ v cs => v = S (joinS ([([115, 99, 114, 105, 112, 116] : Str)] ++ p.scripts.l) ([32] : Str)) ∧ cs = [])⟩, [(1, false)]), (⟨5, 17, [], (fun _ v cs => v = S (((joinS ([([115, 99, 114, 105, 112, 116] : Str)] ++ p.scripts.l) ([32] : Str)) ++ ([59] : Str))) ∧ cs = [])⟩, [(2, false)]), (⟨6, 18, [], (fun _ v cs => ∃ b, v = .slice (some ⟨b, 0, none⟩) 1 1 ∧ cs = [box b 9 (([S (([115, 116, 121, 108, 101] : Str))]))])⟩, []), (⟨9, 21, [], (fun _ v cs => ∃ (x : Sl Str) (F : List Nat), v = x.v ∧ cs = [ow x F] ∧ x.l = [([115, 116, 121, 108, 101] : Str)] ++ p.styles.l)⟩, [(2, false), (4, true)]), (⟨10, 22, [], (fun _ v cs => v = S (joinS ([([115, 116, 121, 108, 101] : Str)] ++ p.styles.l) ([32] : Str)) ∧ cs = [])⟩, [(5, false)]), (⟨11, 23, [], (fun _ v cs => v = S ((((joinS ([([115, 99, 114, 105, 112, 116] : Str)] ++ p.scripts.l) ([32] : Str)) ++ ([59] : Str)) ++ (joinS ([([115, 116, 121, 108, 101] : Str)] ++ p.styles.l) ([32] : Str)))) ∧ cs = [])⟩, [(3, false), (6, false)]), (⟨12, 24, [], (fun _ v cs => v = S (((((joinS ([([115, 99, 114, 105, 112, 116] : Str)] ++ p.scripts.l) ([32] : Str)) ++ ([59] : Str)) ++ (joinS ([([115, 116, 121, 108, 101] : Str)] ++ p.styles.l) ([32] : Str))) ++ ([59] : Str))) ∧ cs = [])⟩, [(7, false)]), (⟨13, 25, [], (fun _ v cs => ∃ b, v = .slice (some ⟨b, 0, none⟩) 1 1 ∧ cs = [box b 9 (([S (([105, 109, 103] : Str))]))])⟩, []), (⟨16, 28, [], (fun _ v cs => ∃ (x : Sl Str) (F : List Nat), v = x.v ∧ cs = [ow x F] ∧ x.l = [([105, 109, 103] : Str)] ++ p.images.l)⟩, [(6, false), (9, true)]), (⟨17, 29, [], (fun _ v cs => v = S (joinS ([([105, 109, 103] : Str)] ++ p.images.l) ([32] : Str)) ∧ cs = [])⟩, [(10, false)])] [true, false, false, false, true, false, false, false, false, true, false, false] [(0, _), (1, _), (2, _), (4, _), (5, _), (6, _), (7, _), (8, _), (9, _), (10, _), (11, _), (13, _), (14, _), (19, _), (20, _), (26, _), (27, _)] ⟨by rfl, by rfl, by rfl, by rfl, by rfl, by rfl, by rfl, by rfl, by rfl, by rfl, by rfl, by rfl, by rfl, by rfl, by rfl, by rfl, by rfl, trivial⟩ Q0 Q6 Q6 Q6 Q6 Q6 Q6 Q6 Q6 (fun _ hs => hs.only Q2) hs (fuel := 2) ⟨⟨local_const, ?_⟩, ⟨local_const, ?_⟩, ⟨local_const, ?_⟩, ⟨local_const, ?_⟩, ⟨local_const, ?_⟩, ⟨local_const, ?_⟩, ⟨local_const, ?_⟩, ⟨local_const, ?_⟩, ⟨local_const, ?_⟩, ⟨local_const, ?_⟩, ⟨local_const, ?_⟩, ⟨local_const, ?_⟩, trivial⟩ ?_
   ·
    clear hs
    intro w R hs
    simp only [List.cons_append, List.nil_append] at hs
    exact Gives.rr' Q0 (Yr.buildSlice hs sll34 Q0 Q0 Q0 Q4 Q0) (fun _ _ ⟨b, hv, _, hs1⟩ => ⟨[box b 9 (([S (([115, 99, 114, 105, 112, 116] : Str))]))], ⟨b, hv, rfl⟩, hs1⟩)
   ·
    clear hs
    rintro _ _ ⟨b2, rfl, rfl⟩
    intro w R hs
    simp only [List.cons_append, List.nil_append] at hs
    replace hs := (Sat.boxow (l := ([([115, 99, 114, 105, 112, 116] : Str)] : List Str)) (hs.sel (D := [box b2 _ _]) Q2) rfl rfl (by simp [maxLen]) (ownL_mk_flat (by intro x hx; obtain rfl := List.mem_singleton.1 hx; show WfS _; unfold WfS; simp)))
    refine Gives.rr' Q0 (Yr.appendS (s := (⟨[([115, 99, 114, 105, 112, 116] : Str)], some ⟨b2, 0, none⟩, _⟩ : Sl Str)) (F := [b2]) (r := p.scripts) hs elt34 Q2 Q0 Q0 (Ph.old h_p.scripts hs) (by simp only [TPolicy.size, PPolicy.lg, strsz, lsz] at hb; simp; unfold maxLen; omega) (by simp only [TPolicy.size, PPolicy.lg, strsz, lsz] at hb; simp; omega)) ?_
    rintro _ w1 ⟨s4, F4, rfl, hl4, hs⟩
    exact ⟨[ow s4 F4], ⟨s4, F4, rfl, rfl, by first | exact hl4 | (simp only [List.append_nil] at hl4 ⊢; exact hl4)⟩, hs⟩
   ·
    clear hs
    rintro _ _ ⟨x5, F5, rfl, rfl, hx5⟩
    intro w R hs
    simp only [List.cons_append, List.nil_append] at hs
    refine Gives.c' Q0 (Yc.func Q0 fn113) (c_strings_Join _ _ _ (hs.okow (x := x5) (F := F5) Q1) (by simp only [hx5]; first | (simp only [TPolicy.size, PPolicy.lg, strsz, lsz] at hb; simp; omega) | (simp only [List.cons_append, List.nil_append]; refine Nat.le_trans (wordsText_len _ _) ?_; simp only [TPolicy.size, PPolicy.lg, List.length_cons, List.length_nil] at hb ⊢; omega)) (by simp only [hx5]; first | (simp only [TPolicy.size, PPolicy.lg, strsz, lsz] at hb; simp; omega) | (simp only [List.cons_append, List.nil_append]; refine Nat.le_trans (wordsText_len _ _) ?_; simp only [TPolicy.size, PPolicy.lg, List.length_cons, List.length_nil] at hb ⊢; omega))) ?_
    rintro _ w1 ⟨rfl, hb⟩
    exact ⟨_, rfl, [], ⟨(by first | rfl | (simp only [hx5])), rfl⟩, hs.ext hb⟩
   ·
    clear hs
    rintro _ _ ⟨rfl, rfl⟩
    intro w R hs
    simp only [List.cons_append, List.nil_append] at hs
    exact Gives.p' Q0 (Yl.cat Q0 Q0 (by have j1 := wordsText_len [115, 99, 114, 105, 112, 116] p.scripts.l; have j2 := wordsText_len [115, 116, 121, 108, 101] p.styles.l; have j3 := wordsText_len [105, 109, 103] p.images.l; simp only [wordsText, List.cons_append, List.nil_append, List.length_append, List.length_cons, List.length_nil, TPolicy.size, PPolicy.lg] at j1 j2 j3 hb ⊢; omega)) ⟨[], ⟨rfl, rfl⟩, hs⟩
   ·
    clear hs
    intro w R hs
    simp only [List.cons_append, List.nil_append] at hs
    exact Gives.rr' Q0 (Yr.buildSlice hs sll34 Q0 Q0 Q0 Q4 Q0) (fun _ _ ⟨b, hv, _, hs1⟩ => ⟨[box b 9 (([S (([115, 116, 121, 108, 101] : Str))]))], ⟨b, hv, rfl⟩, hs1⟩)
   ·
    clear hs
    rintro _ _ ⟨rfl, rfl⟩
    rintro _ _ ⟨b8, rfl, rfl⟩
    intro w R hs
    simp only [List.cons_append, List.nil_append] at hs
    replace hs := (Sat.boxow (l := ([([115, 116, 121, 108, 101] : Str)] : List Str)) (hs.sel (D := [box b8 _ _]) Q2) rfl rfl (by simp [maxLen]) (ownL_mk_flat (by intro x hx; obtain rfl := List.mem_singleton.1 hx; show WfS _; unfold WfS; simp)))
    refine Gives.rr' Q0 (Yr.appendS (s := (⟨[([115, 116, 121, 108, 101] : Str)], some ⟨b8, 0, none⟩, _⟩ : Sl Str)) (F := [b8]) (r := p.styles) hs elt34 Q2 Q0 Q0 (Ph.old h_p.styles hs) (by simp only [TPolicy.size, PPolicy.lg, strsz, lsz] at hb; simp; unfold maxLen; omega) (by simp only [TPolicy.size, PPolicy.lg, strsz, lsz] at hb; simp; omega)) ?_
    rintro _ w1 ⟨s10, F10, rfl, hl10, hs⟩
    exact ⟨[ow s10 F10], ⟨s10, F10, rfl, rfl, by first | exact hl10 | (simp only [List.append_nil] at hl10 ⊢; exact hl10)⟩, hs⟩
   ·
    clear hs
    rintro _ _ ⟨x11, F11, rfl, rfl, hx11⟩
    intro w R hs
    simp only [List.cons_append, List.nil_append] at hs
    refine Gives.c' Q0 (Yc.func Q0 fn113) (c_strings_Join _ _ _ (hs.okow (x := x11) (F := F11) Q1) (by simp only [hx11]; first | (simp only [TPolicy.size, PPolicy.lg, strsz, lsz] at hb; simp; omega) | (simp only [List.cons_append, List.nil_append]; refine Nat.le_trans (wordsText_len _ _) ?_; simp only [TPolicy.size, PPolicy.lg, List.length_cons, List.length_nil] at hb ⊢; omega)) (by simp only [hx11]; first | (simp only [TPolicy.size, PPolicy.lg, strsz, lsz] at hb; simp; omega) | (simp only [List.cons_append, List.nil_append]; refine Nat.le_trans (wordsText_len _ _) ?_; simp only [TPolicy.size, PPolicy.lg, List.length_cons, List.length_nil] at hb ⊢; omega))) ?_
    rintro _ w1 ⟨rfl, hb⟩
    exact ⟨_, rfl, [], ⟨(by first | rfl | (simp only [hx11])), rfl⟩, hs.ext hb⟩
   ·
    clear hs
    rintro _ _ ⟨rfl, rfl⟩
    rintro _ _ ⟨rfl, rfl⟩
    intro w R hs
    simp only [List.cons_append, List.nil_append] at hs
    exact Gives.p' Q0 (Yl.cat Q0 Q0 (by have j1 := wordsText_len [115, 99, 114, 105, 112, 116] p.scripts.l; have j2 := wordsText_len [115, 116, 121, 108, 101] p.styles.l; have j3 := wordsText_len [105, 109, 103] p.images.l; simp only [wordsText, List.cons_append, List.nil_append, List.length_append, List.length_cons, List.length_nil, TPolicy.size, PPolicy.lg] at j1 j2 j3 hb ⊢; omega)) ⟨[], ⟨rfl, rfl⟩, hs⟩
   ·
    clear hs
    rintro _ _ ⟨rfl, rfl⟩
    intro w R hs
    simp only [List.cons_append, List.nil_append] at hs
    exact Gives.p' Q0 (Yl.cat Q0 Q0 (by have j1 := wordsText_len [115, 99, 114, 105, 112, 116] p.scripts.l; have j2 := wordsText_len [115, 116, 121, 108, 101] p.styles.l; have j3 := wordsText_len [105, 109, 103] p.images.l; simp only [wordsText, List.cons_append, List.nil_append, List.length_append, List.length_cons, List.length_nil, TPolicy.size, PPolicy.lg] at j1 j2 j3 hb ⊢; omega)) ⟨[], ⟨rfl, rfl⟩, hs⟩
   ·
    clear hs
    intro w R hs
    simp only [List.cons_append, List.nil_append] at hs
    exact Gives.rr' Q0 (Yr.buildSlice hs sll34 Q0 Q0 Q0 Q4 Q0) (fun _ _ ⟨b, hv, _, hs1⟩ => ⟨[box b 9 (([S (([105, 109, 103] : Str))]))], ⟨b, hv, rfl⟩, hs1⟩)
   ·
    clear hs
    rintro _ _ ⟨rfl, rfl⟩
    rintro _ _ ⟨b15, rfl, rfl⟩
    intro w R hs
    simp only [List.cons_append, List.nil_append] at hs
    replace hs := (Sat.boxow (l := ([([105, 109, 103] : Str)] : List Str)) (hs.sel (D := [box b15 _ _]) Q2) rfl rfl (by simp [maxLen]) (ownL_mk_flat (by intro x hx; obtain rfl := List.mem_singleton.1 hx; show WfS _; unfold WfS; simp)))
    refine Gives.rr' Q0 (Yr.appendS (s := (⟨[([105, 109, 103] : Str)], some ⟨b15, 0, none⟩, _⟩ : Sl Str)) (F := [b15]) (r := p.images) hs elt34 Q2 Q0 Q0 (Ph.old h_p.images hs) (by simp only [TPolicy.size, PPolicy.lg, strsz, lsz] at hb; simp; unfold maxLen; omega) (by simp only [TPolicy.size, PPolicy.lg, strsz, lsz] at hb; simp; omega)) ?_
    rintro _ w1 ⟨s17, F17, rfl, hl17, hs⟩
    exact ⟨[ow s17 F17], ⟨s17, F17, rfl, rfl, by first | exact hl17 | (simp only [List.append_nil] at hl17 ⊢; exact hl17)⟩, hs⟩
   ·
    clear hs
    rintro _ _ ⟨x18, F18, rfl, rfl, hx18⟩
    intro w R hs
    simp only [List.cons_append, List.nil_append] at hs
    refine Gives.c' Q0 (Yc.func Q0 fn113) (c_strings_Join _ _ _ (hs.okow (x := x18) (F := F18) Q1) (by simp only [hx18]; first | (simp only [TPolicy.size, PPolicy.lg, strsz, lsz] at hb; simp; omega) | (simp only [List.cons_append, List.nil_append]; refine Nat.le_trans (wordsText_len _ _) ?_; simp only [TPolicy.size, PPolicy.lg, List.length_cons, List.length_nil] at hb ⊢; omega)) (by simp only [hx18]; first | (simp only [TPolicy.size, PPolicy.lg, strsz, lsz] at hb; simp; omega) | (simp only [List.cons_append, List.nil_append]; refine Nat.le_trans (wordsText_len _ _) ?_; simp only [TPolicy.size, PPolicy.lg, List.length_cons, List.length_nil] at hb ⊢; omega))) ?_
    rintro _ w1 ⟨rfl, hb⟩
    exact ⟨_, rfl, [], ⟨(by first | rfl | (simp only [hx18])), rfl⟩, hs.ext hb⟩
   clear hs
   rintro _ _ ⟨b2, rfl, rfl⟩
   rintro _ _ ⟨x5, F5, rfl, rfl, hx5⟩
   rintro _ _ ⟨rfl, rfl⟩
   rintro _ _ ⟨rfl, rfl⟩
   rintro _ _ ⟨b8, rfl, rfl⟩
   rintro _ _ ⟨x11, F11, rfl, rfl, hx11⟩
   rintro _ _ ⟨rfl, rfl⟩
   rintro _ _ ⟨rfl, rfl⟩
   rintro _ _ ⟨rfl, rfl⟩
   rintro _ _ ⟨b15, rfl, rfl⟩
   rintro _ _ ⟨x18, F18, rfl, rfl, hx18⟩
   rintro _ _ ⟨rfl, rfl⟩
   intro w hs
   simp only [List.cons_append, List.nil_append, cond_true, cond_false] at hs
   refine WA.p (i := 18) Q0 Q6 Q6 Q6 Q0 (hs.only Q2) (fun w hs => Yl.cat Q0 Q0 (by have j1 := wordsText_len [115, 99, 114, 105, 112, 116] p.scripts.l; have j2 := wordsText_len [115, 116, 121, 108, 101] p.styles.l; have j3 := wordsText_len [105, 109, 103] p.images.l; simp only [wordsText, List.cons_append, List.nil_append, List.length_append, List.length_cons, List.length_nil, TPolicy.size, PPolicy.lg] at j1 j2 j3 hb ⊢; omega)) ?_
   refine WA.p (i := 19) Q0 Q6 Q6 Q6 Q0 (hs.only Q2) (fun w hs => Yl.assign Q0) ?_
   refine WA.donen Q6 ?_
   refine WC.seq' ?_
   refine WC.seq ?_
   refine WL.p Q0 (Yl.fieldAddr fa108_4 Q0) ?_
   refine WL.p Q0 (Yl.loadB sca9 Q0 hs Q1 Q0) ?_
   refine WL.p Q0 (Yl.nes Q0 Q0) ?_
   refine WL.next ?_
   refine WC.condS Q0 (fun h3 => ?_) (fun h3 => ?_)
   ·
    replace h3 := not_eq_true h3
    replace h3 := of_decide_eq_false h3
    refine WC.region ?_
    refine Qm ?_
    refine WL.p Q0 (Yl.fieldAddr fa108_4 Q0) ?_
    refine WL.p Q0 (Yl.loadB sca9 Q0 hs Q1 Q0) ?_
    refine WL.p Q0 (Yl.cat Q0 Q0 (by have j1 := wordsText_len [115, 99, 114, 105, 112, 116] p.scripts.l; have j2 := wordsText_len [115, 116, 121, 108, 101] p.styles.l; have j3 := wordsText_len [105, 109, 103] p.images.l; simp only [wordsText, List.cons_append, List.nil_append, List.length_append, List.length_cons, List.length_nil, TPolicy.size, PPolicy.lg] at j1 j2 j3 hb ⊢; omega)) ?_
    refine WL.p Q0 (Yl.cat Q0 Q0 (by have j1 := wordsText_len [115, 99, 114, 105, 112, 116] p.scripts.l; have j2 := wordsText_len [115, 116, 121, 108, 101] p.styles.l; have j3 := wordsText_len [105, 109, 103] p.images.l; simp only [wordsText, List.cons_append, List.nil_append, List.length_append, List.length_cons, List.length_nil, TPolicy.size, PPolicy.lg] at j1 j2 j3 hb ⊢; omega)) ?_
    refine Qa ?_
    refine WL.nil ?_
    refine At.then_ ?_
    refine WC.seq ?_
    refine Qm ?_
    refine Qa ?_
    refine WL.next ?_
    refine WC.ret ?_
    refine fin1' rfl Q0 ?_
    refine RetP.mk hs ?_
    first
     | (simp [fmtPolicy, h1]; done)
     | (simp [fmtPolicy, h2]; done)
     | (simp [fmtPolicy, h1, h2, h3, wordsText]; done)
   ·
    replace h3 := not_eq_false h3
    replace h3 := of_decide_eq_true h3
    refine WC.skipn ?_
    refine WC.seq ?_
    refine Qm ?_
    refine Qa ?_
    refine WL.next ?_
    refine WC.ret ?_
    refine fin1' rfl Q0 ?_
    refine RetP.mk hs ?_
    first
     | (simp [fmtPolicy, h1]; done)
     | (simp [fmtPolicy, h2]; done)
     | (simp [fmtPolicy, h1, h2, h3, wordsText]; done)

theorem c_impl_copyPolicy (p : PPolicy) (w : World) (h_p : Ph.ok w p) (hb : p.lg.size ≤ 1048576) : Calls Tryz.prog 276 [.agg #[Bo p.set, Sl.v p.scripts, Sl.v p.styles, Sl.v p.images, S p.nonce]].toArray w (Ret w (fun v w' => ∃ x : PPolicy, v = .agg (Ph.enc x).toArray ∧ x.lg = p.lg ∧ Fresh w x w')) := by
 refine enterN 19 Tryz.func276 rfl rfl rfl ?_
 have hs := Sat.start w
 refine WC.seq ?_
 refine WL.r Q0 (Yr.box hs Q0 Q0) ?_
 clear hs; rintro _ w ⟨b1, rfl, hb, hs⟩; clear hb
 refine WL.r Q0 (Yr.alloc hs zt108) ?_
 clear hs; rintro _ w ⟨b2, rfl, hb, hs⟩; clear hb
 refine WL.next ?_
 refine WC.seq ?_
 refine WL.r Q0 (Yr.buildSlice hs sll34 Q0 Q0 Q0 Q4 Q0) ?_
 clear hs; rintro _ w ⟨b3, rfl, hb, hs⟩; clear hb
 refine WL.p Q0 (Yl.fieldAddr fa108_1 Q0) ?_
 refine WL.p Q0 (Yl.loadB sca34 Q0 hs Q1 Q0) ?_
 replace hs := (Sat.boxow (l := ([] : List Str)) (hs.sel (D := [box b3 _ _]) Q2) rfl rfl (by simp [maxLen]) (ownL_mk_flat (by simp)))
 refine WL.r Q0 (Yr.appendS (s := (⟨[], some ⟨b3, 0, none⟩, _⟩ : Sl Str)) (F := [b3]) (r := p.scripts) hs elt34 Q2 Q0 Q0 (Ph.old h_p.scripts hs) (by have h1 := h_p.scripts.lt; have h2 := h_p.styles.lt; have h3 := h_p.images.lt; simp; unfold maxLen; omega) (by simp only [TPolicy.size, strsz, lsz] at hb; simp; omega)) ?_
 clear hs; rintro _ w ⟨s4, F4, rfl, hl4, hs⟩
 refine WL.p Q0 (Yl.fieldAddr fa108_1 Q0) ?_
 refine WL.s (Yr.storeB hs Q0 Q0 Q0 Q5 Q3 Q0 (by exact szf34)) ?_
 clear hs; rintro _ w hs
 refine WL.next ?_
 refine WC.seq ?_
 refine WL.r Q0 (Yr.buildSlice hs sll34 Q0 Q0 Q0 Q4 Q0) ?_
 clear hs; rintro _ w ⟨b5, rfl, hb, hs⟩; clear hb
 refine WL.p Q0 (Yl.fieldAddr fa108_2 Q0) ?_
 refine WL.p Q0 (Yl.loadB sca34 Q0 hs Q1 Q0) ?_
 replace hs := (Sat.boxow (l := ([] : List Str)) (hs.sel (D := [box b5 _ _]) Q2) rfl rfl (by simp [maxLen]) (ownL_mk_flat (by simp)))
 refine WL.r Q0 (Yr.appendS (s := (⟨[], some ⟨b5, 0, none⟩, _⟩ : Sl Str)) (F := [b5]) (r := p.styles) hs elt34 Q2 Q0 Q0 (Ph.old h_p.styles hs) (by have h1 := h_p.scripts.lt; have h2 := h_p.styles.lt; have h3 := h_p.images.lt; simp; unfold maxLen; omega) (by simp only [TPolicy.size, strsz, lsz] at hb; simp; omega)) ?_
 clear hs; rintro _ w ⟨s6, F6, rfl, hl6, hs⟩
 refine WL.p Q0 (Yl.fieldAddr fa108_2 Q0) ?_
 refine WL.s (Yr.storeB hs Q0 Q0 Q0 Q5 Q3 Q0 (by exact szf34)) ?_
 clear hs; rintro _ w hs
 refine WL.next ?_
 refine WC.seq ?_
 refine WL.r Q0 (Yr.buildSlice hs sll34 Q0 Q0 Q0 Q4 Q0) ?_
 clear hs; rintro _ w ⟨b7, rfl, hb, hs⟩; clear hb
 refine WL.p Q0 (Yl.fieldAddr fa108_3 Q0) ?_
 refine WL.p Q0 (Yl.loadB sca34 Q0 hs Q1 Q0) ?_
 replace hs := (Sat.boxow (l := ([] : List Str)) (hs.sel (D := [box b7 _ _]) Q2) rfl rfl (by simp [maxLen]) (ownL_mk_flat (by simp)))
 refine WL.r Q0 (Yr.appendS (s := (⟨[], some ⟨b7, 0, none⟩, _⟩ : Sl Str)) (F := [b7]) (r := p.images) hs elt34 Q2 Q0 Q0 (Ph.old h_p.images hs) (by have h1 := h_p.scripts.lt; have h2 := h_p.styles.lt; have h3 := h_p.images.lt; simp; unfold maxLen; omega) (by simp only [TPolicy.size, strsz, lsz] at hb; simp; omega)) ?_
 clear hs; rintro _ w ⟨s8, F8, rfl, hl8, hs⟩
 refine WL.p Q0 (Yl.fieldAddr fa108_3 Q0) ?_
 refine WL.s (Yr.storeB hs Q0 Q0 Q0 Q5 Q3 Q0 (by exact szf34)) ?_
 clear hs; rintro _ w hs
 refine WL.next ?_
 refine WC.seq ?_
 refine WL.p Q0 (Yl.loadAB agg108 Q0 hs Q1 Q0 Q0) ?_
 refine WL.s (Yr.storeB hs Q0 Q0 Q0 Q5 Q3 Q0 (by exact szf108)) ?_
 clear hs; rintro _ w hs
 refine WL.next ?_
 refine WC.ret ?_
 refine fin1c rfl agg108 Q0 hs Q1 Q0 ?_
 refine Ret.mk hs ?_
 refine ⟨⟨_, s4, s6, s8, _⟩, rfl, ?_, ?_⟩
 · simp_all
 · exact (PPolicy.join _ (hs.only (D := [ow s4 F4, ow s6 F6, ow s8 F8]) Q2) (by first | exact Ph.old h_p.set hs | trivial | assumption | exact Nat.zero_le _) (by first | exact Ph.old h_p.nonce hs | trivial | assumption | exact Nat.zero_le _)).fresh List.mem_cons_self

theorem c_impl_ParsePolicy (s : Str) (w : World)  (hb : s.length ≤ 1048576) (hm_ : ∃ m, w.cell? ⟨0, 0, none⟩ = some (.int .i64 m)) : Calls Tryz.prog 212 [S s].toArray w (Ret w (fun v w' => ∃ x : PPolicy, v = .tuple #[.agg (Ph.enc x).toArray, Bo (policyIs s)] ∧ x.lg = policyOf s ∧ Fresh w x w')) := by
 refine enterN 52 Tryz.func212 rfl rfl rfl ?_
 have hs := Sat.start w
 refine WC.seq ?_
 refine WL.r Q0 (Yr.alloc hs zt108) ?_
 clear hs; rintro _ w ⟨b1, rfl, hb, hs⟩; clear hb
 refine Qa ?_
 refine WL.next ?_
 refine WC.seq' ?_
 refine WC.seq ?_
 refine Qm ?_
 refine WL.p Q0 (Yl.eqs Q0 Q0) ?_
 refine WL.next ?_
 refine WC.condS Q0 (fun h1 => ?_) (fun h1 => ?_)
 ·
  replace h1 := of_decide_eq_true h1
  refine WC.seq ?_
  refine WL.p Q0 (Yl.build bt108 Q0 Q4) ?_
  refine WL.s (Yr.storeB hs Q0 Q0 Q0 Q5 Q3 Q0 (by exact szf108)) ?_
  clear hs; rintro _ w hs
  refine Qa ?_
  refine WL.next ?_
  refine WC.ret ?_
  refine At.thenret ?_
  refine fin2c rfl agg108 Q0 Q0 hs Q1 Q0 ?_
  refine Ret.mk hs ?_
  have hb9 : policyIs s = true := policyIs_nil h1
  exact ⟨⟨false, ⟨[], none, 0⟩, ⟨[], none, 0⟩, ⟨[], none, 0⟩, []⟩, by rw [hb9]; rfl, (policyOf_no (.inl h1)).symm, ⟨⟨[], PPolicy.zown _, .nil, fun b h => by cases h⟩⟩⟩
 ·
  replace h1 := of_decide_eq_false h1
  refine WC.skipn ?_
  refine WC.seq ?_
  refine Qm ?_
  refine WL.call hs Q0 (Yc.func Q0 fn103) (c_strings_Split _ _ _ Q10 Q0 (by first | assumption | exact Sat.cellm hs (by assumption))) ?_
  have hs0 := hs; clear hs; intro v w hb hR hs; clear hs
  obtain ⟨x2, rfl, hx2, hf2⟩ := hR
  obtain ⟨F2, hs⟩ := hf2.sat hs0 hb; clear hs0 hf2
  have hle2 := Sl.Ok.le (hs.okow (x := x2) (F := F2) Q1)
  refine Qa ?_
  refine WL.next ?_
  refine WC.seq' ?_
  refine WC.seq ?_
  refine Qm ?_
  refine WL.p Q0 (Yl.len_sl slu34 Q0) ?_
  refine WL.p Q0 (Yl.lss Q0 Q0) ?_
  refine WL.next ?_
  refine WC.condS Q0 (fun h2 => ?_) (fun h2 => ?_)
  ·
   replace h2 := of_decide_eq_true h2
   refine WC.seq ?_
   refine WL.p Q0 (Yl.build bt108 Q0 Q4) ?_
   refine WL.s (Yr.storeB hs Q0 Q0 Q0 Q5 Q3 Q0 (by exact szf108)) ?_
   clear hs; rintro _ w hs
   refine Qa ?_
   refine WL.next ?_
   refine WC.ret ?_
   refine At.thenret ?_
   refine fin2c rfl agg108 Q0 Q0 hs Q1 Q0 ?_
   refine Ret.mk hs ?_
   have hb9 : policyIs s = false := policyIs_short h1 (by rw [← show x2.l = splitC 59 s from hx2]; omega)
   exact ⟨⟨false, ⟨[], none, 0⟩, ⟨[], none, 0⟩, ⟨[], none, 0⟩, []⟩, by rw [hb9]; rfl, (policyOf_no (.inr hb9)).symm, ⟨⟨[], PPolicy.zown _, .nil, fun b h => by cases h⟩⟩⟩
  ·
   replace h2 := of_decide_eq_false h2
   have h39 := getD_len (s := s) (i := 3)
   rw [← show x2.l = splitC 59 s from hx2] at h39
   refine WC.skipn ?_
   refine WC.seq ?_
   refine WL.p Q0 (Yl.buildArr arr293 szf34 zt293) ?_
   refine WL.r Q0 (Yr.alloc hs zt293) ?_
   clear hs; rintro _ w ⟨b3, rfl, hb, hs⟩; clear hb
   refine WL.s (Yr.storeB hs Q0 Q0 Q0 Q5 Q3 Q0 (by exact szf293)) ?_
   clear hs; rintro _ w hs
   refine WL.next ?_
   refine WC.seq' ?_
   refine WC.seq ?_
   refine Qm ?_
   refine WL.next ?_
   refine WC.block ?_
   refine WC.loopN 4 ?_
   refine WR.succ ?_
   refine WC.seq ?_
   refine WL.p Q0 (Yl.lss Q0 Q0) ?_
   refine WL.next ?_
   refine WC.seq' ?_
   refine WC.condT Q0 ?_
   refine WC.skipn ?_
   refine WC.seq' ?_
   refine WC.block ?_
   refine WC.seq ?_
   refine Qm ?_
   refine Qa ?_
   refine WL.next ?_
   refine WC.region ?_
   refine Qm ?_
   refine Qm ?_
   refine Qm ?_
   refine WL.p Q0 (Yl.indexAddr (k := 0) slt34 Q0 Q0 (hs.okow (x := x2) (F := F2) Q1) Q0 ((getD_some (i := 0) (z := ([] : Str)) Q7))) ?_
   refine WL.p Q0 (Yl.loadC0 sca9 Q0 (Sl.Ok.at_ (hs.okow (x := x2) (F := F2) Q1) ((getD_some (i := 0) (z := ([] : Str)) Q7))).2 Q0) ?_
   refine WL.call hs Q0 (Yc.func Q0 fn103) (c_strings_Split _ _ _ (by first | (have := getD_len (s := s) (i := 0); rw [← show x2.l = splitC 59 s from hx2] at this; omega) | (have := getD_len (s := s) (i := 1); rw [← show x2.l = splitC 59 s from hx2] at this; omega) | (have := getD_len (s := s) (i := 2); rw [← show x2.l = splitC 59 s from hx2] at this; omega) | (have := getD_len (s := s) (i := 3); rw [← show x2.l = splitC 59 s from hx2] at this; omega)) Q0 (by first | assumption | exact Sat.cellm hs (by assumption))) ?_
   have hs0 := hs; clear hs; intro v w hb hR hs; clear hs
   obtain ⟨x4, rfl, hx4, hf4⟩ := hR
   obtain ⟨F4, hs⟩ := hf4.sat hs0 hb; clear hs0 hf4
   have hle4 := Sl.Ok.le (hs.okow (x := x4) (F := F4) Q1)
   refine WL.p Q0 (Yl.slice_sl (s := x4) (l := 1) (h := x4.l.length) slt34 Q0 hle4 (by exact ⟨_, by rfl⟩) (by exact rfl) (by rw [hx4]; exact List.length_pos_iff.2 (splitC_ne _ _)) (by exact Nat.le_refl _)) ?_
   refine WL.p Q0 (Yl.indexArr (i := 0) arr293 szf34 Q0 Q0 Q0 (by decide)) ?_
   refine WL.s (Yr.storeB hs Q0 Q0 Q0 Q5 Q3 Q0 (by exact szf34)) ?_
   clear hs; rintro _ w hs
   refine WL.nil ?_
   refine At.blocknormal ?_
   refine At.then_ ?_
   refine WC.region ?_
   refine WL.p Q0 (Yl.add Q0 Q0 Q7) ?_
   refine Qm ?_
   refine WL.nil ?_
   refine At.roundN ?_
   refine WR.succ ?_
   refine WC.seq ?_
   refine WL.p Q0 (Yl.lss Q0 Q0) ?_
   refine WL.next ?_
   refine WC.seq' ?_
   refine WC.condT Q0 ?_
   refine WC.skipn ?_
   refine WC.seq' ?_
   refine WC.block ?_
   refine WC.seq ?_
   refine Qm ?_
   refine Qa ?_
   refine WL.next ?_
   refine WC.region ?_
   refine Qm ?_
   refine Qm ?_
   refine Qm ?_
   refine WL.p Q0 (Yl.indexAddr (k := 1) slt34 Q0 Q0 (hs.okow (x := x2) (F := F2) Q1) Q0 ((getD_some (i := 1) (z := ([] : Str)) Q7))) ?_
   refine WL.p Q0 (Yl.loadC0 sca9 Q0 (Sl.Ok.at_ (hs.okow (x := x2) (F := F2) Q1) ((getD_some (i := 1) (z := ([] : Str)) Q7))).2 Q0) ?_
   refine WL.call hs Q0 (Yc.func Q0 fn103) (c_strings_Split _ _ _ (by first | (have := getD_len (s := s) (i := 0); rw [← show x2.l = splitC 59 s from hx2] at this; omega) | (have := getD_len (s := s) (i := 1); rw [← show x2.l = splitC 59 s from hx2] at this; omega) | (have := getD_len (s := s) (i := 2); rw [← show x2.l = splitC 59 s from hx2] at this; omega) | (have := getD_len (s := s) (i := 3); rw [← show x2.l = splitC 59 s from hx2] at this; omega)) Q0 (by first | assumption | exact Sat.cellm hs (by assumption))) ?_
   have hs0 := hs; clear hs; intro v w hb hR hs; clear hs
   obtain ⟨x5, rfl, hx5, hf5⟩ := hR
   obtain ⟨F5, hs⟩ := hf5.sat hs0 hb; clear hs0 hf5
   have hle5 := Sl.Ok.le (hs.okow (x := x5) (F := F5) Q1)
   refine WL.p Q0 (Yl.slice_sl (s := x5) (l := 1) (h := x5.l.length) slt34 Q0 hle5 (by exact ⟨_, by rfl⟩) (by exact rfl) (by rw [hx5]; exact List.length_pos_iff.2 (splitC_ne _ _)) (by exact Nat.le_refl _)) ?_
   refine WL.p Q0 (Yl.indexArr (i := 1) arr293 szf34 Q0 Q0 Q0 (by decide)) ?_
   refine WL.s (Yr.storeB hs Q0 Q0 Q0 Q5 Q3 Q0 (by exact szf34)) ?_
   clear hs; rintro _ w hs
   refine WL.nil ?_
   refine At.blocknormal ?_
   refine At.then_ ?_
   refine WC.region ?_
   refine WL.p Q0 (Yl.add Q0 Q0 Q7) ?_
   refine Qm ?_
   refine WL.nil ?_
   refine At.roundN ?_
   refine WR.succ ?_
   refine WC.seq ?_
   refine WL.p Q0 (Yl.lss Q0 Q0) ?_
   refine WL.next ?_
   refine WC.seq' ?_
   refine WC.condT Q0 ?_
   refine WC.skipn ?_
   refine WC.seq' ?_
   refine WC.block ?_
   refine WC.seq ?_
   refine Qm ?_
   refine Qa ?_
   refine WL.next ?_
   refine WC.region ?_
   refine Qm ?_
   refine Qm ?_
   refine Qm ?_
   refine WL.p Q0 (Yl.indexAddr (k := 2) slt34 Q0 Q0 (hs.okow (x := x2) (F := F2) Q1) Q0 ((getD_some (i := 2) (z := ([] : Str)) Q7))) ?_
   refine WL.p Q0 (Yl.loadC0 sca9 Q0 (Sl.Ok.at_ (hs.okow (x := x2) (F := F2) Q1) ((getD_some (i := 2) (z := ([] : Str)) Q7))).2 Q0) ?_
   refine WL.call hs Q0 (Yc.func Q0 fn103) (c_strings_Split _ _ _ (by first | (have := getD_len (s := s) (i := 0); rw [← show x2.l = splitC 59 s from hx2] at this; omega) | (have := getD_len (s := s) (i := 1); rw [← show x2.l = splitC 59 s from hx2] at this; omega) | (have := getD_len (s := s) (i := 2); rw [← show x2.l = splitC 59 s from hx2] at this; omega) | (have := getD_len (s := s) (i := 3); rw [← show x2.l = splitC 59 s from hx2] at this; omega)) Q0 (by first | assumption | exact Sat.cellm hs (by assumption))) ?_
   have hs0 := hs; clear hs; intro v w hb hR hs; clear hs
   obtain ⟨x6, rfl, hx6, hf6⟩ := hR
   obtain ⟨F6, hs⟩ := hf6.sat hs0 hb; clear hs0 hf6
   have hle6 := Sl.Ok.le (hs.okow (x := x6) (F := F6) Q1)
   refine WL.p Q0 (Yl.slice_sl (s := x6) (l := 1) (h := x6.l.length) slt34 Q0 hle6 (by exact ⟨_, by rfl⟩) (by exact rfl) (by rw [hx6]; exact List.length_pos_iff.2 (splitC_ne _ _)) (by exact Nat.le_refl _)) ?_
   refine WL.p Q0 (Yl.indexArr (i := 2) arr293 szf34 Q0 Q0 Q0 (by decide)) ?_
   refine WL.s (Yr.storeB hs Q0 Q0 Q0 Q5 Q3 Q0 (by exact szf34)) ?_
   clear hs; rintro _ w hs
   refine WL.nil ?_
   refine At.blocknormal ?_
   refine At.then_ ?_
   refine WC.region ?_
   refine WL.p Q0 (Yl.add Q0 Q0 Q7) ?_
   refine Qm ?_
   refine WL.nil ?_
   refine At.roundN ?_
   refine WR.succ ?_
   refine WC.seq ?_
   refine WL.p Q0 (Yl.lss Q0 Q0) ?_
   refine WL.next ?_
   refine WC.seq' ?_
   refine WC.condF Q0 ?_
   refine WC.exit ?_
   refine At.thenexit ?_
   refine At.thenexit ?_
   refine At.blockexit ?_
   refine At.then_ ?_
   refine WC.seq ?_
   refine WL.p Q0 (Yl.indexArr (i := 0) arr293 szf34 Q0 Q0 Q0 (by decide)) ?_
   refine WL.p Q0 (Yl.loadB sca34 Q0 hs Q1 Q0) ?_
   refine WL.p Q0 (Yl.indexArr (i := 1) arr293 szf34 Q0 Q0 Q0 (by decide)) ?_
   refine WL.p Q0 (Yl.loadB sca34 Q0 hs Q1 Q0) ?_
   refine WL.p Q0 (Yl.indexArr (i := 2) arr293 szf34 Q0 Q0 Q0 (by decide)) ?_
   refine WL.p Q0 (Yl.loadB sca34 Q0 hs Q1 Q0) ?_
   refine WL.p Q0 (Yl.build bt108 Q0 Q4) ?_
   refine WL.r Q0 (Yr.alloc hs zt108) ?_
   clear hs; rintro _ w ⟨b7, rfl, hb, hs⟩; clear hb
   refine WL.s (Yr.storeB hs Q0 Q0 Q0 Q5 Q3 Q0 (by exact szf108)) ?_
   clear hs; rintro _ w hs
   refine WL.next ?_
   refine WC.seq' ?_
   refine WC.seq ?_
   refine Qm ?_
   refine WL.p Q0 (Yl.len_sl slu34 Q0) ?_
   refine WL.p Q0 (Yl.gtr Q0 Q0) ?_
   refine WL.next ?_
   refine WC.condS Q0 (fun h3 => ?_) (fun h3 => ?_)
   ·
    replace h3 := of_decide_eq_true h3
    refine WC.region ?_
    refine Qm ?_
    refine WL.p Q0 (Yl.indexAddr (k := 3) slt34 Q0 Q0 (hs.okow (x := x2) (F := F2) Q1) Q0 ((getD_some (i := 3) (z := ([] : Str)) Q7))) ?_
    refine WL.p Q0 (Yl.loadC0 sca9 Q0 (Sl.Ok.at_ (hs.okow (x := x2) (F := F2) Q1) ((getD_some (i := 3) (z := ([] : Str)) Q7))).2 Q0) ?_
    refine WL.callp hs Q0 (Yc.func Q0 fn274) (c_strings_TrimPrefix _ _ _) ?_
    clear hs; intro w hs
    refine WL.p Q0 (Yl.fieldAddr fa108_4 Q0) ?_
    refine WL.s (Yr.storeB hs Q0 Q0 Q0 Q5 Q3 Q0 (by exact szf9)) ?_
    clear hs; rintro _ w hs
    refine WL.nil ?_
    refine At.then_ ?_
    refine WC.seq' ?_
    refine WC.seq ?_
    refine WL.p Q0 (Yl.loadAB agg108 Q0 hs Q1 Q0 Q0) ?_
    have hpl9 : PPolicy.lg (⟨true, (x4.cut 1 x4.l.length), (x5.cut 1 x5.l.length), (x6.cut 1 x6.l.length), (nonceI (x2.l.getD 3 []))⟩ : PPolicy) = polI s := by
     have e2 : x2.l = splitC 59 s := hx2
     have g0 : x4.l = splitC 32 ((splitC 59 s).getD 0 []) := by rw [← e2]; exact hx4
     have g1 : x5.l = splitC 32 ((splitC 59 s).getD 1 []) := by rw [← e2]; exact hx5
     have g2 : x6.l = splitC 32 ((splitC 59 s).getD 2 []) := by rw [← e2]; exact hx6
     have c0 : (x4.cut 1 x4.l.length).l = (splitC 32 ((splitC 59 s).getD 0 [])).tail := by rw [Sl.cut_full, g0, List.drop_one]
     have c1 : (x5.cut 1 x5.l.length).l = (splitC 32 ((splitC 59 s).getD 1 [])).tail := by rw [Sl.cut_full, g1, List.drop_one]
     have c2 : (x6.cut 1 x6.l.length).l = (splitC 32 ((splitC 59 s).getD 2 [])).tail := by rw [Sl.cut_full, g2, List.drop_one]
     simp only [PPolicy.lg, polI, polOf, c0, c1, c2, TPolicy.mk.injEq, true_and]
     rw [← e2]
     first
      | (rw [if_neg (show ¬ 3 < x2.l.length from fun h => by omega)]; done)
      | (rw [if_pos (show 3 < x2.l.length from Int.ofNat_lt.1 Q7)]; done)
      | (rw [if_pos (show 3 < x2.l.length from Int.ofNat_lt.1 Q7)]
         simp only [nonceS, nonceI]
         first
           | (rfl; done)
           | (rw [if_neg Q7]; done)
           | (rw [if_pos Q7, List.take_of_length_le (by simp)]; done)
           | (rw [if_pos Q7]; done))
    refine WL.callp hs Q0 (Yc.func Q0 fn275) (c_impl_FormatPolicy (⟨true, (x4.cut 1 x4.l.length), (x5.cut 1 x5.l.length), (x6.cut 1 x6.l.length), (nonceI (x2.l.getD 3 []))⟩ : PPolicy) _ ⟨trivial, (Sl.Ok.cut (hs.okow (x := x4) (F := F4) Q1) (by rw [hx4]; exact List.length_pos_iff.2 (splitC_ne _ _)) (by exact Nat.le_refl _)), (Sl.Ok.cut (hs.okow (x := x5) (F := F5) Q1) (by rw [hx5]; exact List.length_pos_iff.2 (splitC_ne _ _)) (by exact Nat.le_refl _)), (Sl.Ok.cut (hs.okow (x := x6) (F := F6) Q1) (by rw [hx6]; exact List.length_pos_iff.2 (splitC_ne _ _)) (by exact Nat.le_refl _)), (show WfS _ from Nat.le_trans (nonceI_len _) Q7)⟩ (by rw [hpl9]; have := polI_size (s := s) (by rw [← show x2.l = splitC 59 s from hx2]; omega); omega)) ?_
    clear hs; intro w hs
    refine Qm ?_
    refine WL.p Q0 (Yl.nes Q0 Q0) ?_
    refine WL.next ?_
    refine WC.condS Q0 (fun h4 => ?_) (fun h4 => ?_)
    ·
     replace h4 := not_eq_true h4
     replace h4 := of_decide_eq_false h4
     refine WC.seq ?_
     refine WL.p Q0 (Yl.build bt108 Q0 Q4) ?_
     refine WL.s (Yr.storeB hs Q0 Q0 Q0 Q5 Q3 Q0 (by exact szf108)) ?_
     clear hs; rintro _ w hs
     refine Qa ?_
     refine WL.next ?_
     refine WC.ret ?_
     refine At.thenret ?_
     refine fin2c rfl agg108 Q0 Q0 hs Q1 Q0 ?_
     refine Ret.mk hs ?_
     rw [hpl9] at h4
     have hb9 : policyIs s = false := policyIs_badI h1 h4
     exact ⟨⟨false, ⟨[], none, 0⟩, ⟨[], none, 0⟩, ⟨[], none, 0⟩, []⟩, by rw [hb9]; rfl, (policyOf_no (.inr hb9)).symm, ⟨⟨[], PPolicy.zown _, .nil, fun b h => by cases h⟩⟩⟩
    ·
     replace h4 := not_eq_false h4
     replace h4 := of_decide_eq_true h4
     refine WC.skipn ?_
     refine WC.seq ?_
     refine WL.p Q0 (Yl.loadAB agg108 Q0 hs Q1 Q0 Q0) ?_
     refine WL.call hs Q0 (Yc.func Q0 fn276) (c_impl_copyPolicy (⟨true, (x4.cut 1 x4.l.length), (x5.cut 1 x5.l.length), (x6.cut 1 x6.l.length), (nonceI (x2.l.getD 3 []))⟩ : PPolicy) _ ⟨trivial, (Sl.Ok.cut (hs.okow (x := x4) (F := F4) Q1) (by rw [hx4]; exact List.length_pos_iff.2 (splitC_ne _ _)) (by exact Nat.le_refl _)), (Sl.Ok.cut (hs.okow (x := x5) (F := F5) Q1) (by rw [hx5]; exact List.length_pos_iff.2 (splitC_ne _ _)) (by exact Nat.le_refl _)), (Sl.Ok.cut (hs.okow (x := x6) (F := F6) Q1) (by rw [hx6]; exact List.length_pos_iff.2 (splitC_ne _ _)) (by exact Nat.le_refl _)), (show WfS _ from Nat.le_trans (nonceI_len _) Q7)⟩ (by rw [hpl9]; have := polI_size (s := s) (by rw [← show x2.l = splitC 59 s from hx2]; omega); omega)) ?_
     have hs0 := hs; clear hs; intro v w hb hR hs; clear hs
     obtain ⟨x8, rfl, hx8, hf8⟩ := hR
     obtain ⟨F8, hs⟩ := hf8.sat hs0 hb; clear hs0 hf8
     refine WL.s (Yr.storeB hs Q0 Q0 Q0 Q5 Q3 Q0 (by exact szf108)) ?_
     clear hs; rintro _ w hs
     refine Qa ?_
     refine WL.next ?_
     refine WC.ret ?_
     refine fin2c rfl agg108 Q0 Q0 hs Q1 Q0 ?_
     refine Ret.mk hs ?_
     rw [hpl9] at h4
     have hq9 : x2.l = splitC 59 s := hx2
     have h49 : 3 ≤ (splitC 59 s).length := by rw [← hq9]; omega
     have hb9 : policyIs s = true := policyIs_goodI h1 h4 h49
     exact ⟨x8, by rw [hb9]; try rfl, hx8.trans (hpl9.trans (policyOf_goodI h1 hb9 h4).symm), hs.fresh Q1⟩
   ·
    replace h3 := of_decide_eq_false h3
    refine WC.skipn ?_
    refine WC.seq' ?_
    refine WC.seq ?_
    refine WL.p Q0 (Yl.loadAB agg108 Q0 hs Q1 Q0 Q0) ?_
    have hpl9 : PPolicy.lg (⟨true, (x4.cut 1 x4.l.length), (x5.cut 1 x5.l.length), (x6.cut 1 x6.l.length), ([] : Str)⟩ : PPolicy) = polI s := by
     have e2 : x2.l = splitC 59 s := hx2
     have g0 : x4.l = splitC 32 ((splitC 59 s).getD 0 []) := by rw [← e2]; exact hx4
     have g1 : x5.l = splitC 32 ((splitC 59 s).getD 1 []) := by rw [← e2]; exact hx5
     have g2 : x6.l = splitC 32 ((splitC 59 s).getD 2 []) := by rw [← e2]; exact hx6
     have c0 : (x4.cut 1 x4.l.length).l = (splitC 32 ((splitC 59 s).getD 0 [])).tail := by rw [Sl.cut_full, g0, List.drop_one]
     have c1 : (x5.cut 1 x5.l.length).l = (splitC 32 ((splitC 59 s).getD 1 [])).tail := by rw [Sl.cut_full, g1, List.drop_one]
     have c2 : (x6.cut 1 x6.l.length).l = (splitC 32 ((splitC 59 s).getD 2 [])).tail := by rw [Sl.cut_full, g2, List.drop_one]
     simp only [PPolicy.lg, polI, polOf, c0, c1, c2, TPolicy.mk.injEq, true_and]
     rw [← e2]
     first
      | (rw [if_neg (show ¬ 3 < x2.l.length from fun h => by omega)]; done)
      | (rw [if_pos (show 3 < x2.l.length from Int.ofNat_lt.1 Q7)]; done)
      | (rw [if_pos (show 3 < x2.l.length from Int.ofNat_lt.1 Q7)]
         simp only [nonceS, nonceI]
         first
           | (rfl; done)
           | (rw [if_neg Q7]; done)
           | (rw [if_pos Q7, List.take_of_length_le (by simp)]; done)
           | (rw [if_pos Q7]; done))
    refine WL.callp hs Q0 (Yc.func Q0 fn275) (c_impl_FormatPolicy (⟨true, (x4.cut 1 x4.l.length), (x5.cut 1 x5.l.length), (x6.cut 1 x6.l.length), ([] : Str)⟩ : PPolicy) _ ⟨trivial, (Sl.Ok.cut (hs.okow (x := x4) (F := F4) Q1) (by rw [hx4]; exact List.length_pos_iff.2 (splitC_ne _ _)) (by exact Nat.le_refl _)), (Sl.Ok.cut (hs.okow (x := x5) (F := F5) Q1) (by rw [hx5]; exact List.length_pos_iff.2 (splitC_ne _ _)) (by exact Nat.le_refl _)), (Sl.Ok.cut (hs.okow (x := x6) (F := F6) Q1) (by rw [hx6]; exact List.length_pos_iff.2 (splitC_ne _ _)) (by exact Nat.le_refl _)), (show WfS [] from Nat.zero_le _)⟩ (by rw [hpl9]; have := polI_size (s := s) (by rw [← show x2.l = splitC 59 s from hx2]; omega); omega)) ?_
    clear hs; intro w hs
    refine Qm ?_
    refine WL.p Q0 (Yl.nes Q0 Q0) ?_
    refine WL.next ?_
    refine WC.condS Q0 (fun h4 => ?_) (fun h4 => ?_)
    ·
     replace h4 := not_eq_true h4
     replace h4 := of_decide_eq_false h4
     refine WC.seq ?_
     refine WL.p Q0 (Yl.build bt108 Q0 Q4) ?_
     refine WL.s (Yr.storeB hs Q0 Q0 Q0 Q5 Q3 Q0 (by exact szf108)) ?_
     clear hs; rintro _ w hs
     refine Qa ?_
     refine WL.next ?_
     refine WC.ret ?_
     refine At.thenret ?_
     refine fin2c rfl agg108 Q0 Q0 hs Q1 Q0 ?_
     refine Ret.mk hs ?_
     rw [hpl9] at h4
     have hb9 : policyIs s = false := policyIs_badI h1 h4
     exact ⟨⟨false, ⟨[], none, 0⟩, ⟨[], none, 0⟩, ⟨[], none, 0⟩, []⟩, by rw [hb9]; rfl, (policyOf_no (.inr hb9)).symm, ⟨⟨[], PPolicy.zown _, .nil, fun b h => by cases h⟩⟩⟩
    ·
     replace h4 := not_eq_false h4
     replace h4 := of_decide_eq_true h4
     refine WC.skipn ?_
     refine WC.seq ?_
     refine WL.p Q0 (Yl.loadAB agg108 Q0 hs Q1 Q0 Q0) ?_
     refine WL.call hs Q0 (Yc.func Q0 fn276) (c_impl_copyPolicy (⟨true, (x4.cut 1 x4.l.length), (x5.cut 1 x5.l.length), (x6.cut 1 x6.l.length), ([] : Str)⟩ : PPolicy) _ ⟨trivial, (Sl.Ok.cut (hs.okow (x := x4) (F := F4) Q1) (by rw [hx4]; exact List.length_pos_iff.2 (splitC_ne _ _)) (by exact Nat.le_refl _)), (Sl.Ok.cut (hs.okow (x := x5) (F := F5) Q1) (by rw [hx5]; exact List.length_pos_iff.2 (splitC_ne _ _)) (by exact Nat.le_refl _)), (Sl.Ok.cut (hs.okow (x := x6) (F := F6) Q1) (by rw [hx6]; exact List.length_pos_iff.2 (splitC_ne _ _)) (by exact Nat.le_refl _)), (show WfS [] from Nat.zero_le _)⟩ (by rw [hpl9]; have := polI_size (s := s) (by rw [← show x2.l = splitC 59 s from hx2]; omega); omega)) ?_
     have hs0 := hs; clear hs; intro v w hb hR hs; clear hs
     obtain ⟨x9, rfl, hx9, hf9⟩ := hR
     obtain ⟨F9, hs⟩ := hf9.sat hs0 hb; clear hs0 hf9
     refine WL.s (Yr.storeB hs Q0 Q0 Q0 Q5 Q3 Q0 (by exact szf108)) ?_
     clear hs; rintro _ w hs
     refine Qa ?_
     refine WL.next ?_
     refine WC.ret ?_
     refine fin2c rfl agg108 Q0 Q0 hs Q1 Q0 ?_
     refine Ret.mk hs ?_
     rw [hpl9] at h4
     have hq9 : x2.l = splitC 59 s := hx2
     have h49 : 3 ≤ (splitC 59 s).length := by rw [← hq9]; omega
     have hb9 : policyIs s = true := policyIs_goodI h1 h4 h49
     exact ⟨x9, by rw [hb9]; try rfl, hx9.trans (hpl9.trans (policyOf_goodI h1 hb9 h4).symm), hs.fresh Q1⟩

theorem c_impl_IsResponse (x : TResponse) (w : World) (h_x : Ph.ok w x) (hb : x.policy.length ≤ 1048576) (hm_ : ∃ m, w.cell? ⟨0, 0, none⟩ = some (.int .i64 m)) : Calls Tryz.prog 130 [.agg #[I x.status, I x.kind, S x.body, I x.age, Bo x.shares, S x.policy]].toArray w (RetP w (Bo x.isv)) := by
 refine enterN 33 Tryz.func130 rfl rfl rfl ?_
 have hs := Sat.start w
 refine WC.seq ?_
 refine WL.r Q0 (Yr.box hs Q0 Q0) ?_
 clear hs; rintro _ w ⟨b1, rfl, hb, hs⟩; clear hb
 refine Qa ?_
 refine WL.next ?_
 refine WC.seq ?_
 refine WL.p Q0 (Yl.fieldAddr fa72_5 Q0) ?_
 refine WL.p Q0 (Yl.loadB sca9 Q0 hs Q1 Q0) ?_
 refine WL.call hs Q0 (Yc.func Q0 fn212) (c_impl_ParsePolicy _ _ Q10 (by first | assumption | exact Sat.cellm hs (by assumption))) ?_
 have hs0 := hs; clear hs; intro v w hb hR hs; clear hs
 obtain ⟨x2, rfl, hx2, hf2⟩ := hR
 obtain ⟨F2, hs⟩ := hf2.sat hs0 hb; clear hs0 hf2
 refine Qm ?_
 refine WL.p Q0 (Yl.extract Q0 Q0) ?_
 refine WL.p Q0 (Yl.extract Q0 Q0) ?_
 refine WL.r Q0 (Yr.alloc hs zt108) ?_
 clear hs; rintro _ w ⟨b3, rfl, hb, hs⟩; clear hb
 refine WL.s (Yr.storeB hs Q0 Q0 Q0 Q5 Q3 Q0 (by exact szf108)) ?_
 clear hs; rintro _ w hs
 refine Qa ?_
 refine WL.next ?_
 refine WC.seq ?_
 refine Qm ?_
 refine Qm ?_
 refine WL.split (d := 12) Q0 (fun h1 => ?_) (fun h1 => ?_)
 ·
  refine WL.run (d := 12) Q0 Q0 ?_
  refine WL.p Q0 (Yl.fieldAddr fa72_0 Q0) ?_
  refine WL.run (d := 12) Q0 Q0 ?_
  refine WL.p Q0 (Yl.loadB sca3 Q0 hs Q1 Q0) ?_
  refine WL.run (d := 12) Q0 Q0 ?_
  refine WL.callp hs Q0 (Yc.func Q0 fn90) (c_impl_InRange _ _ _ _) ?_
  clear hs; intro w hs
  refine WL.p Q0 (Yl.pickT Q0 Q0) ?_
  refine Qm ?_
  refine WL.split (d := 17) Q0 (fun h2 => ?_) (fun h2 => ?_)
  ·
   replace h2 := inR_true.1 h2
   refine WL.run (d := 17) Q0 Q0 ?_
   refine WL.p Q0 (Yl.fieldAddr fa72_1 Q0) ?_
   refine WL.run (d := 17) Q0 Q0 ?_
   refine WL.p Q0 (Yl.loadB sca3 Q0 hs Q1 Q0) ?_
   refine WL.run (d := 17) Q0 Q0 ?_
   refine WL.callp hs Q0 (Yc.func Q0 fn90) (c_impl_InRange _ _ _ _) ?_
   clear hs; intro w hs
   refine WL.p Q0 (Yl.pickT Q0 Q0) ?_
   refine Qm ?_
   refine WL.split (d := 22) Q0 (fun h3 => ?_) (fun h3 => ?_)
   ·
    replace h3 := inR_true.1 h3
    refine WL.run (d := 22) Q0 Q0 ?_
    refine WL.p Q0 (Yl.fieldAddr fa72_2 Q0) ?_
    refine WL.run (d := 22) Q0 Q0 ?_
    refine WL.p Q0 (Yl.loadB sca9 Q0 hs Q1 Q0) ?_
    refine WL.run (d := 22) Q0 Q0 ?_
    refine WL.p Q0 (Yl.len_str str9 Q0) ?_
    refine WL.run (d := 22) Q0 Q0 ?_
    refine WL.p Q0 (Yl.leq Q0 Q0) ?_
    refine WL.p Q0 (Yl.pickT Q0 Q0) ?_
    refine Qm ?_
    refine WL.split (d := 28) Q0 (fun h4 => ?_) (fun h4 => ?_)
    ·
     replace h4 := of_decide_eq_true h4
     refine WL.run (d := 28) Q0 Q0 ?_
     refine WL.p Q0 (Yl.fieldAddr fa72_3 Q0) ?_
     refine WL.run (d := 28) Q0 Q0 ?_
     refine WL.p Q0 (Yl.loadB sca3 Q0 hs Q1 Q0) ?_
     refine WL.run (d := 28) Q0 Q0 ?_
     refine WL.callp hs Q0 (Yc.func Q0 fn90) (c_impl_InRange _ _ _ _) ?_
     clear hs; intro w hs
     refine WL.p Q0 (Yl.pickT Q0 Q0) ?_
     refine Qa ?_
     refine WL.next ?_
     refine WC.ret ?_
     refine fin1' rfl Q0 ?_
     refine RetP.mk hs ?_
     clear hs hb h_x
     try simp only [← inR_true] at *
     try simp only [← inR_false] at *
     simp_all [TResponse.isv]
     try (intro hh; omega)
    ·
     replace h4 := of_decide_eq_false h4
     refine WL.skip (d := 28) Q0 Q0 Q0 Q0 ?_
     refine WL.skip (d := 28) Q0 Q0 Q0 Q0 ?_
     refine WL.skip (d := 28) Q0 Q0 Q0 Q0 ?_
     refine WL.p Q0 (Yl.pickF Q0 Q0) ?_
     refine Qa ?_
     refine WL.next ?_
     refine WC.ret ?_
     refine fin1' rfl Q0 ?_
     refine RetP.mk hs ?_
     clear hs hb h_x
     try simp only [← inR_true] at *
     try simp only [← inR_false] at *
     simp_all [TResponse.isv]
     try (intro hh; omega)
   ·
    replace h3 := inR_false.1 h3
    refine WL.skip (d := 22) Q0 Q0 Q0 Q0 ?_
    refine WL.skip (d := 22) Q0 Q0 Q0 Q0 ?_
    refine WL.skip (d := 22) Q0 Q0 Q0 Q0 ?_
    refine WL.skip (d := 22) Q0 Q0 Q0 Q0 ?_
    refine WL.p Q0 (Yl.pickF Q0 Q0) ?_
    refine Qm ?_
    refine WL.skip (d := 28) Q0 Q0 Q0 Q0 ?_
    refine WL.skip (d := 28) Q0 Q0 Q0 Q0 ?_
    refine WL.skip (d := 28) Q0 Q0 Q0 Q0 ?_
    refine WL.p Q0 (Yl.pickF Q0 Q0) ?_
    refine Qa ?_
    refine WL.next ?_
    refine WC.ret ?_
    refine fin1' rfl Q0 ?_
    refine RetP.mk hs ?_
    clear hs hb h_x
    try simp only [← inR_true] at *
    try simp only [← inR_false] at *
    simp_all [TResponse.isv]
    try (intro hh; omega)
  ·
   replace h2 := inR_false.1 h2
   refine WL.skip (d := 17) Q0 Q0 Q0 Q0 ?_
   refine WL.skip (d := 17) Q0 Q0 Q0 Q0 ?_
   refine WL.skip (d := 17) Q0 Q0 Q0 Q0 ?_
   refine WL.p Q0 (Yl.pickF Q0 Q0) ?_
   refine Qm ?_
   refine WL.skip (d := 22) Q0 Q0 Q0 Q0 ?_
   refine WL.skip (d := 22) Q0 Q0 Q0 Q0 ?_
   refine WL.skip (d := 22) Q0 Q0 Q0 Q0 ?_
   refine WL.skip (d := 22) Q0 Q0 Q0 Q0 ?_
   refine WL.p Q0 (Yl.pickF Q0 Q0) ?_
   refine Qm ?_
   refine WL.skip (d := 28) Q0 Q0 Q0 Q0 ?_
   refine WL.skip (d := 28) Q0 Q0 Q0 Q0 ?_
   refine WL.skip (d := 28) Q0 Q0 Q0 Q0 ?_
   refine WL.p Q0 (Yl.pickF Q0 Q0) ?_
   refine Qa ?_
   refine WL.next ?_
   refine WC.ret ?_
   refine fin1' rfl Q0 ?_
   refine RetP.mk hs ?_
   clear hs hb h_x
   try simp only [← inR_true] at *
   try simp only [← inR_false] at *
   simp_all [TResponse.isv]
   try (intro hh; omega)
 ·
  refine WL.skip (d := 12) Q0 Q0 Q0 Q0 ?_
  refine WL.skip (d := 12) Q0 Q0 Q0 Q0 ?_
  refine WL.skip (d := 12) Q0 Q0 Q0 Q0 ?_
  refine WL.p Q0 (Yl.pickF Q0 Q0) ?_
  refine Qm ?_
  refine WL.skip (d := 17) Q0 Q0 Q0 Q0 ?_
  refine WL.skip (d := 17) Q0 Q0 Q0 Q0 ?_
  refine WL.skip (d := 17) Q0 Q0 Q0 Q0 ?_
  refine WL.p Q0 (Yl.pickF Q0 Q0) ?_
  refine Qm ?_
  refine WL.skip (d := 22) Q0 Q0 Q0 Q0 ?_
  refine WL.skip (d := 22) Q0 Q0 Q0 Q0 ?_
  refine WL.skip (d := 22) Q0 Q0 Q0 Q0 ?_
  refine WL.skip (d := 22) Q0 Q0 Q0 Q0 ?_
  refine WL.p Q0 (Yl.pickF Q0 Q0) ?_
  refine Qm ?_
  refine WL.skip (d := 28) Q0 Q0 Q0 Q0 ?_
  refine WL.skip (d := 28) Q0 Q0 Q0 Q0 ?_
  refine WL.skip (d := 28) Q0 Q0 Q0 Q0 ?_
  refine WL.p Q0 (Yl.pickF Q0 Q0) ?_
  refine Qa ?_
  refine WL.next ?_
  refine WC.ret ?_
  refine fin1' rfl Q0 ?_
  refine RetP.mk hs ?_
  clear hs hb h_x
  try simp only [← inR_true] at *
  try simp only [← inR_false] at *
  simp_all [TResponse.isv]
  try (intro hh; omega)

theorem c_slices_IndexFunc___impl_File_impl_File_ (s : (Sl TFile)) (f : FuncId) (us_f : List Value) (p_f : TFile → Bool) (w : World) (h_s : Ph.ok w s)  (hfn_f : FN Tryz.prog f) (hf_f : ∀ x ∈ s.l, ∀ w', Below w.heap.size w w' → Calls Tryz.prog f (([.agg (Ph.enc x).toArray] : List Value) ++ us_f).toArray w' (RetP w' (Bo (p_f x)))) : Calls Tryz.prog 272 [Sl.v s, .func (.func f) #[] us_f.toArray].toArray w (RetP w (I (idxF (p_f) s.l 0))) := by
 have hw := h_s.lt
 refine enterN 19 Tryz.func272 rfl rfl rfl ?_
 have hs := Sat.start w
 refine WC.seq ?_
 refine Qa ?_
 refine WL.next ?_
 refine WC.seq' ?_
 refine WC.seq ?_
 refine Qm ?_
 refine WL.p Q0 (Yl.len_sl slu214 Q0) ?_
 refine Qm ?_
 refine WL.next ?_
 refine WC.block ?_
 refine WC.loopC (ι := Nat) (fun k => s.l.length - k) (fun k => [(8, I (k : Int))]) (fun _ => []) (fun k => idxF (p_f) s.l 0 = idxF (p_f) (s.l.drop k) k) [(0, _), (1, _), (7, _)] 0 (hs) ⟨by rfl, by rfl, by rfl, trivial⟩ ⟨by rfl, trivial⟩ ?_ ?_
 ·
  simp
 clear hs; rintro k w hJ hs
 simp only [List.nil_append] at hs
 refine WC.seq ?_
 refine WL.p Q0 (Yl.lss Q0 Q0) ?_
 refine WL.next ?_
 refine WC.seq' ?_
 refine WC.condS Q0 (fun h1 => ?_) (fun h1 => ?_)
 ·
  replace h1 := of_decide_eq_true h1
  obtain ⟨d, hd⟩ := exists_get (l := s.l) (k := k) Q7
  rw [drop_cons hd] at hJ
  refine WC.skipn ?_
  refine WC.seq' ?_
  refine WC.block ?_
  refine WC.seq ?_
  refine Qm ?_
  refine Qa ?_
  refine WL.next ?_
  refine WC.seq ?_
  refine Qm ?_
  refine Qm ?_
  refine Qm ?_
  refine WL.p Q0 (Yl.indexAddr slt214 Q0 Q0 (Ph.old h_s hs) Q0 (hd)) ?_
  refine WL.p Q0 (Yl.loadA agg219 Q0 (Sl.Ok.at_ (Ph.old h_s hs) (by assumption)).2 Q0) ?_
  refine WL.callp hs Q0 (Yc.value Q0 Q0 hfn_f Q0) (hf_f _ (List.mem_of_getElem? (by assumption)) _ hs.below) ?_
  clear hs; intro w hs
  refine WL.next ?_
  refine WC.condS Q0 (fun h2 => ?_) (fun h2 => ?_)
  ·
   refine WC.seq ?_
   refine Qm ?_
   refine Qa ?_
   refine WL.next ?_
   refine WC.ret ?_
   refine At.blockret ?_
   refine At.thenret ?_
   refine At.thenret ?_
   refine At.blockret ?_
   refine At.thenret ?_
   refine fin1' rfl Q0 ?_
   refine RetP.mk hs ?_
   rw [hJ]; simp_all [idxF]
  ·
   refine WC.skip ?_
   refine At.blocknormal ?_
   refine At.then_ ?_
   refine WC.region ?_
   refine WL.p Q0 (Yl.add Q0 Q0 Q7) ?_
   refine Qm ?_
   refine WL.nil ?_
   refine At.roundC (k + 1) (hs.only Q2) ⟨by rfl, by rfl, by rfl, trivial⟩ ⟨by rfl, trivial⟩ ?_ ?_
   ·
    omega
   ·
    rw [hJ]; simp_all [idxF]
 ·
  replace h1 := of_decide_eq_false h1
  rw [drop_out (l := s.l) Q7] at hJ
  refine WC.exit ?_
  refine At.thenexit ?_
  refine At.thenexit ?_
  refine At.blockexit ?_
  refine At.then_ ?_
  refine WC.seq ?_
  refine Qa ?_
  refine WL.next ?_
  refine WC.ret ?_
  refine fin1' rfl Q0 ?_
  refine RetP.mk hs ?_
  rw [hJ]; simp_all [idxF]

theorem c_impl_fileAt_1 (f : TFile) (path : Str) (b1 : Nat) (w : World)   (hc1 : CellsAt w b1 0 [S path]) : Calls Tryz.prog 273 [.agg #[S f.path, I f.response.status, I f.response.kind, S f.response.body, I f.response.age, Bo f.response.shares, S f.response.policy], bp b1 0].toArray w (RetP w (Bo (decide (f.path = path)))) := by
 refine enterN 8 Tryz.func273 rfl rfl rfl ?_
 have hs := Sat.start w
 refine WC.seq ?_
 refine WL.r Q0 (Yr.box hs Q0 Q0) ?_
 clear hs; rintro _ w ⟨b1, rfl, hb, hs⟩; clear hb
 refine Qa ?_
 refine WL.next ?_
 refine WC.seq ?_
 refine WL.p Q0 (Yl.fieldAddr fa219_0 Q0) ?_
 refine WL.p Q0 (Yl.loadB sca9 Q0 hs Q1 Q0) ?_
 refine WL.p Q0 (Yl.loadC0 sca9 Q0 (hc1.ext hs.below) Q0) ?_
 refine WL.p Q0 (Yl.eqs Q0 Q0) ?_
 refine Qa ?_
 refine WL.next ?_
 refine WC.ret ?_
 refine fin1' rfl Q0 ?_
 refine RetP.mk hs ?_
 rfl

theorem c_impl_fileAt (s : PServer) (path : Str) (w : World) (h_s : Ph.ok w s)  : Calls Tryz.prog 209 [.agg #[S s.host, Sl.v s.files], S path].toArray w (RetP w (I (idxF (fun f : TFile => decide (f.path = path)) s.files.l 0))) := by
 have hw := h_s.files.lt
 refine enterN 9 Tryz.func209 rfl rfl rfl ?_
 have hs := Sat.start w
 refine WC.seq ?_
 refine WL.r Q0 (Yr.box hs Q0 Q0) ?_
 clear hs; rintro _ w ⟨b1, rfl, hb, hs⟩; clear hb
 refine WL.r Q0 (Yr.box hs Q0 Q0) ?_
 clear hs; rintro _ w ⟨b2, rfl, hb, hs⟩; clear hb
 refine Qa ?_
 refine WL.next ?_
 refine WC.seq ?_
 refine WL.p Q0 (Yl.fieldAddr fa216_1 Q0) ?_
 refine WL.p Q0 (Yl.loadB sca214 Q0 hs Q1 Q0) ?_
 refine WL.p Q0 (Yl.makeFunc Q0 Q0) ?_
 refine WL.callp hs Q0 (Yc.func Q0 fn272) (c_slices_IndexFunc___impl_File_impl_File_ _ 273 _ (fun f : TFile => decide (f.path = path)) _ (Ph.old h_s.files hs) fn273 (fun x hx w1 hb1 => c_impl_fileAt_1 x _ _ w1 ((hs.ext hb1).box_cells Q1))) ?_
 clear hs; intro w hs
 refine Qa ?_
 refine WL.next ?_
 refine WC.ret ?_
 refine fin1' rfl Q0 ?_
 refine RetP.mk hs ?_
 rfl

theorem c_impl_IsServer (s : PServer) (w : World) (h_s : Ph.ok w s) (hp : ∀ f ∈ s.files.l, f.response.policy.length ≤ 1048576) (hm_ : ∃ m, w.cell? ⟨0, 0, none⟩ = some (.int .i64 m)) : Calls Tryz.prog 188 [.agg #[S s.host, Sl.v s.files]].toArray w (RetP w (Bo (serverOk s.lg))) := by
 have hw := h_s.files.lt
 refine enterN 41 Tryz.func188 rfl rfl rfl ?_
 have hs := Sat.start w
 refine WC.seq ?_
 refine WL.r Q0 (Yr.box hs Q0 Q0) ?_
 clear hs; rintro _ w ⟨b1, rfl, hb, hs⟩; clear hb
 refine Qa ?_
 refine WL.next ?_
 refine WC.seq' ?_
 refine WC.seq ?_
 refine WL.p Q0 (Yl.fieldAddr fa216_1 Q0) ?_
 refine WL.p Q0 (Yl.loadB sca214 Q0 hs Q1 Q0) ?_
 refine WL.p Q0 (Yl.len_sl slu214 Q0) ?_
 refine Qm ?_
 refine WL.next ?_
 refine WC.block ?_
 refine WC.loopC (ι := Nat) (fun k => s.files.l.length - k) (fun k => [(8, I (k : Int))]) (fun _ => []) (fun k => uniqF fileOk sameFile [] s.files.l = uniqF fileOk sameFile (s.files.l.take k) (s.files.l.drop k)) [(0, _), (1, _), (6, _), (7, _)] 0 (hs) ⟨by rfl, by rfl, by rfl, by rfl, trivial⟩ ⟨by rfl, trivial⟩ ?_ ?_
 ·
  simp
 clear hs; rintro k w hJ hs
 simp only [List.nil_append] at hs
 refine WC.seq ?_
 refine WL.p Q0 (Yl.lss Q0 Q0) ?_
 refine WL.next ?_
 refine WC.seq' ?_
 refine WC.condS Q0 (fun h1 => ?_) (fun h1 => ?_)
 ·
  replace h1 := of_decide_eq_true h1
  obtain ⟨d, hd⟩ := exists_get (l := s.files.l) (k := k) Q7
  rw [uniq_step hd] at hJ
  have hpd : d.response.policy.length ≤ 1048576 := hp d (List.mem_of_getElem? hd)
  have hix := idx_first0 (p := fun f : TFile => decide (f.path = d.path)) hd (by simp)
  replace hix : _ ↔ (s.files.l.take k).any (sameFile d) = false := hix
  generalize (s.files.l.take k).any (sameFile d) = u at hJ hix
  refine WC.skipn ?_
  refine WC.seq' ?_
  refine WC.block ?_
  refine WC.seq ?_
  refine Qm ?_
  refine WL.p Q0 (Yl.indexAddr slt214 Q0 Q0 (Ph.old h_s.files hs) Q0 (hd)) ?_
  refine WL.p Q0 (Yl.loadA agg219 Q0 (Sl.Ok.at_ (Ph.old h_s.files hs) (by assumption)).2 Q0) ?_
  refine WL.r Q0 (Yr.alloc hs zt219) ?_
  clear hs; rintro _ w ⟨b2, rfl, hb, hs⟩; clear hb
  refine Qa ?_
  refine WL.s (Yr.storeB hs Q0 Q0 Q0 Q5 Q3 Q0 (by exact szf219)) ?_
  clear hs; rintro _ w hs
  refine WL.next ?_
  refine WC.seq ?_
  refine WL.p Q0 (Yl.fieldAddr fa219_0 Q0) ?_
  refine WL.p Q0 (Yl.loadB sca9 Q0 hs Q1 Q0) ?_
  refine WL.callp hs Q0 (Yc.func Q0 fn106) (c_impl_IsName _ _ (Ph.old (Sl.Ok.elem h_s.files hd).path hs)) ?_
  clear hs; intro w hs
  refine WL.p Q0 (Yl.not Q0) ?_
  refine Qm ?_
  refine WL.split (d := 17) Q0 (fun h2 => ?_) (fun h2 => ?_)
  ·
   replace h2 := not_eq_true h2
   refine WL.skip (d := 17) Q0 Q0 Q0 Q0 ?_
   refine WL.skip (d := 17) Q0 Q0 Q0 Q0 ?_
   refine WL.skip (d := 17) Q0 Q0 Q0 Q0 ?_
   refine WL.skip (d := 17) Q0 Q0 Q0 Q0 ?_
   refine WL.skip (d := 17) Q0 Q0 Q0 Q0 ?_
   refine WL.skip (d := 17) Q0 Q0 Q0 Q0 ?_
   refine WL.p Q0 (Yl.pickT Q0 Q0) ?_
   refine Qm ?_
   refine WL.skip (d := 25) Q0 Q0 Q0 Q0 ?_
   refine WL.skip (d := 25) Q0 Q0 Q0 Q0 ?_
   refine WL.skip (d := 25) Q0 Q0 Q0 Q0 ?_
   refine WL.skip (d := 25) Q0 Q0 Q0 Q0 ?_
   refine WL.p Q0 (Yl.pickT Q0 Q0) ?_
   refine WL.next ?_
   refine WC.condT Q0 ?_
   refine WC.seq ?_
   refine Qa ?_
   refine WL.next ?_
   refine WC.ret ?_
   refine At.blockret ?_
   refine At.thenret ?_
   refine At.thenret ?_
   refine At.blockret ?_
   refine At.thenret ?_
   refine fin1' rfl Q0 ?_
   refine RetP.mk hs ?_
   simp only [serverOk, filesOk]
   simp_all [fileOk]
   try omega
  ·
   replace h2 := not_eq_false h2
   refine WL.run (d := 17) Q0 Q0 ?_
   refine WL.p Q0 (Yl.loadAB agg216 Q0 hs Q1 Q0 Q0) ?_
   refine WL.run (d := 17) Q0 Q0 ?_
   refine WL.p Q0 (Yl.fieldAddr fa219_0 Q0) ?_
   refine WL.run (d := 17) Q0 Q0 ?_
   refine WL.p Q0 (Yl.loadB sca9 Q0 hs Q1 Q0) ?_
   refine WL.run (d := 17) Q0 Q0 ?_
   refine WL.callp hs Q0 (Yc.func Q0 fn209) (c_impl_fileAt _ _ _ (Ph.old h_s hs)) ?_
   clear hs; intro w hs
   refine WL.run (d := 17) Q0 Q0 ?_
   refine Qm ?_
   refine WL.run (d := 17) Q0 Q0 ?_
   refine WL.p Q0 (Yl.nei Q0 Q0) ?_
   refine WL.p Q0 (Yl.pickF Q0 Q0) ?_
   refine Qm ?_
   refine WL.split (d := 25) Q0 (fun h3 => ?_) (fun h3 => ?_)
   ·
    replace h3 := not_eq_true h3
    replace h3 := of_decide_eq_false h3
    refine WL.skip (d := 25) Q0 Q0 Q0 Q0 ?_
    refine WL.skip (d := 25) Q0 Q0 Q0 Q0 ?_
    refine WL.skip (d := 25) Q0 Q0 Q0 Q0 ?_
    refine WL.skip (d := 25) Q0 Q0 Q0 Q0 ?_
    refine WL.p Q0 (Yl.pickT Q0 Q0) ?_
    refine WL.next ?_
    refine WC.condT Q0 ?_
    refine WC.seq ?_
    refine Qa ?_
    refine WL.next ?_
    refine WC.ret ?_
    refine At.blockret ?_
    refine At.thenret ?_
    refine At.thenret ?_
    refine At.blockret ?_
    refine At.thenret ?_
    refine fin1' rfl Q0 ?_
    refine RetP.mk hs ?_
    simp only [serverOk, filesOk]
    simp_all [fileOk]
    try omega
   ·
    replace h3 := not_eq_false h3
    replace h3 := of_decide_eq_true h3
    refine WL.run (d := 25) Q0 Q0 ?_
    refine WL.p Q0 (Yl.fieldAddr fa219_1 Q0) ?_
    refine WL.run (d := 25) Q0 Q0 ?_
    refine WL.p Q0 (Yl.loadAB agg72 Q0 hs Q1 Q0 Q0) ?_
    refine WL.run (d := 25) Q0 Q0 ?_
    refine WL.callp hs Q0 (Yc.func Q0 fn130) (c_impl_IsResponse _ _ ⟨(Ph.old (Sl.Ok.elem h_s.files hd).response.status hs), (Ph.old (Sl.Ok.elem h_s.files hd).response.kind hs), (Ph.old (Sl.Ok.elem h_s.files hd).response.body hs), (Ph.old (Sl.Ok.elem h_s.files hd).response.age hs), (Ph.old (Sl.Ok.elem h_s.files hd).response.shares hs), (Ph.old (Sl.Ok.elem h_s.files hd).response.policy hs)⟩ (by first | assumption | omega) (by first | assumption | exact Sat.cellm hs (by assumption))) ?_
    clear hs; intro w hs
    refine WL.run (d := 25) Q0 Q0 ?_
    refine WL.p Q0 (Yl.not Q0) ?_
    refine WL.p Q0 (Yl.pickF Q0 Q0) ?_
    refine WL.next ?_
    refine WC.condS Q0 (fun h4 => ?_) (fun h4 => ?_)
    ·
     replace h4 := not_eq_true h4
     refine WC.seq ?_
     refine Qa ?_
     refine WL.next ?_
     refine WC.ret ?_
     refine At.blockret ?_
     refine At.thenret ?_
     refine At.thenret ?_
     refine At.blockret ?_
     refine At.thenret ?_
     refine fin1' rfl Q0 ?_
     refine RetP.mk hs ?_
     simp only [serverOk, filesOk]
     simp_all [fileOk]
     try omega
    ·
     replace h4 := not_eq_false h4
     refine WC.skip ?_
     refine At.blocknormal ?_
     refine At.then_ ?_
     refine WC.region ?_
     refine WL.p Q0 (Yl.add Q0 Q0 Q7) ?_
     refine Qm ?_
     refine WL.nil ?_
     refine At.roundC (k + 1) (hs.only Q2) ⟨by rfl, by rfl, by rfl, by rfl, trivial⟩ ⟨by rfl, trivial⟩ ?_ ?_
     ·
      omega
     ·
      rw [hJ]; simp_all [fileOk]
 ·
  replace h1 := of_decide_eq_false h1
  rw [uniq_end (l := s.files.l) Q7] at hJ
  refine WC.exit ?_
  refine At.thenexit ?_
  refine At.thenexit ?_
  refine At.blockexit ?_
  refine At.then_ ?_
  refine WC.seq ?_
  refine WL.p Q0 (Yl.fieldAddr fa216_0 Q0) ?_
  refine WL.p Q0 (Yl.loadB sca9 Q0 hs Q1 Q0) ?_
  refine WL.callp hs Q0 (Yc.func Q0 fn106) (c_impl_IsName _ _ (Ph.old h_s.host hs)) ?_
  clear hs; intro w hs
  refine Qm ?_
  refine WL.split (d := 35) Q0 (fun h2 => ?_) (fun h2 => ?_)
  ·
   refine WL.run (d := 35) Q0 Q0 ?_
   refine WL.p Q0 (Yl.fieldAddr fa216_1 Q0) ?_
   refine WL.run (d := 35) Q0 Q0 ?_
   refine WL.p Q0 (Yl.loadB sca214 Q0 hs Q1 Q0) ?_
   refine WL.run (d := 35) Q0 Q0 ?_
   refine WL.p Q0 (Yl.len_sl slu214 Q0) ?_
   refine WL.run (d := 35) Q0 Q0 ?_
   refine WL.p Q0 (Yl.leq Q0 Q0) ?_
   refine WL.p Q0 (Yl.pickT Q0 Q0) ?_
   refine Qa ?_
   refine WL.next ?_
   refine WC.ret ?_
   refine fin1' rfl Q0 ?_
   refine RetP.mk hs ?_
   simp only [serverOk, filesOk]
   simp_all [fileOk]
   try omega
  ·
   refine WL.skip (d := 35) Q0 Q0 Q0 Q0 ?_
   refine WL.skip (d := 35) Q0 Q0 Q0 Q0 ?_
   refine WL.skip (d := 35) Q0 Q0 Q0 Q0 ?_
   refine WL.skip (d := 35) Q0 Q0 Q0 Q0 ?_
   refine WL.p Q0 (Yl.pickF Q0 Q0) ?_
   refine Qa ?_
   refine WL.next ?_
   refine WC.ret ?_
   refine fin1' rfl Q0 ?_
   refine RetP.mk hs ?_
   simp only [serverOk, filesOk]
   simp_all [fileOk]
   try omega

theorem c_slices_IndexFunc___impl_Server_impl_Server_ (s : (Sl PServer)) (f : FuncId) (us_f : List Value) (p_f : PServer → Bool) (w : World) (h_s : Ph.ok w s)  (hfn_f : FN Tryz.prog f) (hf_f : ∀ x ∈ s.l, ∀ w', Below w.heap.size w w' → Calls Tryz.prog f (([.agg (Ph.enc x).toArray] : List Value) ++ us_f).toArray w' (RetP w' (Bo (p_f x)))) : Calls Tryz.prog 243 [Sl.v s, .func (.func f) #[] us_f.toArray].toArray w (RetP w (I (idxF (p_f) s.l 0))) := by
 have hw := h_s.lt
 refine enterN 19 Tryz.func243 rfl rfl rfl ?_
 have hs := Sat.start w
 refine WC.seq ?_
 refine Qa ?_
 refine WL.next ?_
 refine WC.seq' ?_
 refine WC.seq ?_
 refine Qm ?_
 refine WL.p Q0 (Yl.len_sl slu24 Q0) ?_
 refine Qm ?_
 refine WL.next ?_
 refine WC.block ?_
 refine WC.loopC (ι := Nat) (fun k => s.l.length - k) (fun k => [(8, I (k : Int))]) (fun _ => []) (fun k => idxF (p_f) s.l 0 = idxF (p_f) (s.l.drop k) k) [(0, _), (1, _), (7, _)] 0 (hs) ⟨by rfl, by rfl, by rfl, trivial⟩ ⟨by rfl, trivial⟩ ?_ ?_
 ·
  simp
 clear hs; rintro k w hJ hs
 simp only [List.nil_append] at hs
 refine WC.seq ?_
 refine WL.p Q0 (Yl.lss Q0 Q0) ?_
 refine WL.next ?_
 refine WC.seq' ?_
 refine WC.condS Q0 (fun h1 => ?_) (fun h1 => ?_)
 ·
  replace h1 := of_decide_eq_true h1
  obtain ⟨d, hd⟩ := exists_get (l := s.l) (k := k) Q7
  rw [drop_cons hd] at hJ
  refine WC.skipn ?_
  refine WC.seq' ?_
  refine WC.block ?_
  refine WC.seq ?_
  refine Qm ?_
  refine Qa ?_
  refine WL.next ?_
  refine WC.seq ?_
  refine Qm ?_
  refine Qm ?_
  refine Qm ?_
  refine WL.p Q0 (Yl.indexAddr slt24 Q0 Q0 (Ph.old h_s hs) Q0 (hd)) ?_
  refine WL.p Q0 (Yl.loadA agg216 Q0 (Sl.Ok.at_ (Ph.old h_s hs) (by assumption)).2 Q0) ?_
  refine WL.callp hs Q0 (Yc.value Q0 Q0 hfn_f Q0) (hf_f _ (List.mem_of_getElem? (by assumption)) _ hs.below) ?_
  clear hs; intro w hs
  refine WL.next ?_
  refine WC.condS Q0 (fun h2 => ?_) (fun h2 => ?_)
  ·
   refine WC.seq ?_
   refine Qm ?_
   refine Qa ?_
   refine WL.next ?_
   refine WC.ret ?_
   refine At.blockret ?_
   refine At.thenret ?_
   refine At.thenret ?_
   refine At.blockret ?_
   refine At.thenret ?_
   refine fin1' rfl Q0 ?_
   refine RetP.mk hs ?_
   rw [hJ]; simp_all [idxF]
  ·
   refine WC.skip ?_
   refine At.blocknormal ?_
   refine At.then_ ?_
   refine WC.region ?_
   refine WL.p Q0 (Yl.add Q0 Q0 Q7) ?_
   refine Qm ?_
   refine WL.nil ?_
   refine At.roundC (k + 1) (hs.only Q2) ⟨by rfl, by rfl, by rfl, trivial⟩ ⟨by rfl, trivial⟩ ?_ ?_
   ·
    omega
   ·
    rw [hJ]; simp_all [idxF]
 ·
  replace h1 := of_decide_eq_false h1
  rw [drop_out (l := s.l) Q7] at hJ
  refine WC.exit ?_
  refine At.thenexit ?_
  refine At.thenexit ?_
  refine At.blockexit ?_
  refine At.then_ ?_
  refine WC.seq ?_
  refine Qa ?_
  refine WL.next ?_
  refine WC.ret ?_
  refine fin1' rfl Q0 ?_
  refine RetP.mk hs ?_
  rw [hJ]; simp_all [idxF]

theorem c_impl_serverAt_1 (s : PServer) (host : Str) (b1 : Nat) (w : World) (h_s : Ph.ok w s)  (hc1 : CellsAt w b1 0 [S host]) : Calls Tryz.prog 244 [.agg #[S s.host, Sl.v s.files], bp b1 0].toArray w (RetP w (Bo (decide (s.host = host)))) := by
 refine enterN 8 Tryz.func244 rfl rfl rfl ?_
 have hs := Sat.start w
 refine WC.seq ?_
 refine WL.r Q0 (Yr.box hs Q0 Q0) ?_
 clear hs; rintro _ w ⟨b1, rfl, hb, hs⟩; clear hb
 refine Qa ?_
 refine WL.next ?_
 refine WC.seq ?_
 refine WL.p Q0 (Yl.fieldAddr fa216_0 Q0) ?_
 refine WL.p Q0 (Yl.loadB sca9 Q0 hs Q1 Q0) ?_
 refine WL.p Q0 (Yl.loadC0 sca9 Q0 (hc1.ext hs.below) Q0) ?_
 refine WL.p Q0 (Yl.eqs Q0 Q0) ?_
 refine Qa ?_
 refine WL.next ?_
 refine WC.ret ?_
 refine fin1' rfl Q0 ?_
 refine RetP.mk hs ?_
 rfl

theorem c_impl_serverAt (l : (Sl PServer)) (host : Str) (w : World) (h_l : Ph.ok w l)  : Calls Tryz.prog 189 [Sl.v l, S host].toArray w (RetP w (I (idxF (fun s : PServer => decide (s.host = host)) l.l 0))) := by
 have hw := h_l.lt
 refine enterN 8 Tryz.func189 rfl rfl rfl ?_
 have hs := Sat.start w
 refine WC.seq ?_
 refine WL.r Q0 (Yr.box hs Q0 Q0) ?_
 clear hs; rintro _ w ⟨b1, rfl, hb, hs⟩; clear hb
 refine Qa ?_
 refine WL.next ?_
 refine WC.seq ?_
 refine Qm ?_
 refine WL.p Q0 (Yl.makeFunc Q0 Q0) ?_
 refine WL.callp hs Q0 (Yc.func Q0 fn243) (c_slices_IndexFunc___impl_Server_impl_Server_ _ 244 _ (fun s : PServer => decide (s.host = host)) _ (Ph.old h_l hs) fn244 (fun x hx w1 hb1 => c_impl_serverAt_1 x _ _ w1 (Ph.ext hb1 ((Ph.old h_l hs).elems x hx)) ((hs.ext hb1).box_cells Q1))) ?_
 clear hs; intro w hs
 refine Qa ?_
 refine WL.next ?_
 refine WC.ret ?_
 refine fin1' rfl Q0 ?_
 refine RetP.mk hs ?_
 rfl

theorem c_impl_AreServers (l : (Sl PServer)) (w : World) (h_l : Ph.ok w l) (hb : lsz TServer.size (l.l.map PServer.lg) ≤ 1048576) (hm_ : ∃ m, w.cell? ⟨0, 0, none⟩ = some (.int .i64 m)) : Calls Tryz.prog 96 [Sl.v l].toArray w (RetP w (Bo (serversOk (l.l.map PServer.lg)))) := by
 have hw := h_l.lt
 rw [serversOk_map]
 refine enterN 27 Tryz.func96 rfl rfl rfl ?_
 have hs := Sat.start w
 refine WC.seq ?_
 refine Qa ?_
 refine WL.next ?_
 refine WC.seq' ?_
 refine WC.seq ?_
 refine Qm ?_
 refine WL.p Q0 (Yl.len_sl slu24 Q0) ?_
 refine Qm ?_
 refine WL.next ?_
 refine WC.block ?_
 refine WC.loopC (ι := Nat) (fun k => l.l.length - k) (fun k => [(7, I (k : Int))]) (fun _ => []) (fun k => uniqF (fun d : PServer => serverOk d.lg) (fun d d2 : PServer => decide (d2.host = d.host)) [] l.l = uniqF (fun d : PServer => serverOk d.lg) (fun d d2 : PServer => decide (d2.host = d.host)) (l.l.take k) (l.l.drop k)) [(0, _), (5, _), (6, _)] 0 (hs) ⟨by rfl, by rfl, by rfl, trivial⟩ ⟨by rfl, trivial⟩ ?_ ?_
 ·
  simp
 clear hs; rintro k w hJ hs
 simp only [List.nil_append] at hs
 refine WC.seq ?_
 refine WL.p Q0 (Yl.lss Q0 Q0) ?_
 refine WL.next ?_
 refine WC.seq' ?_
 refine WC.condS Q0 (fun h1 => ?_) (fun h1 => ?_)
 ·
  replace h1 := of_decide_eq_true h1
  obtain ⟨d, hd⟩ := exists_get (l := l.l) (k := k) Q7
  rw [uniq_step hd] at hJ
  have hdl := lsum_le (f := fun d : PServer => d.lg.size) (List.mem_of_getElem? hd)
  have hpd : d.lg.size ≤ 1048576 := by rw [lsz_map] at hb; simp only [lsz] at hb; omega
  have hix := idx_first0 (p := fun s : PServer => decide (s.host = d.host)) hd (by simp)
  replace hix : _ ↔ (l.l.take k).any ((fun d d2 : PServer => decide (d2.host = d.host)) d) = false := hix
  generalize (l.l.take k).any ((fun d d2 : PServer => decide (d2.host = d.host)) d) = u at hJ hix
  refine WC.skipn ?_
  refine WC.seq' ?_
  refine WC.block ?_
  refine WC.seq ?_
  refine Qm ?_
  refine WL.p Q0 (Yl.indexAddr slt24 Q0 Q0 (Ph.old h_l hs) Q0 (hd)) ?_
  refine WL.p Q0 (Yl.loadA agg216 Q0 (Sl.Ok.at_ (Ph.old h_l hs) (by assumption)).2 Q0) ?_
  refine WL.r Q0 (Yr.alloc hs zt216) ?_
  clear hs; rintro _ w ⟨b1, rfl, hb, hs⟩; clear hb
  refine Qa ?_
  refine WL.s (Yr.storeB hs Q0 Q0 Q0 Q5 Q3 Q0 (by exact szf216)) ?_
  clear hs; rintro _ w hs
  refine WL.next ?_
  refine WC.seq ?_
  refine WL.p Q0 (Yl.loadAB agg216 Q0 hs Q1 Q0 Q0) ?_
  refine WL.callp hs Q0 (Yc.func Q0 fn188) (c_impl_IsServer _ _ (Ph.old (Sl.Ok.elem h_l hd) hs) (by show ∀ f ∈ (PServer.lg _).files, _; exact srv_pol hpd) (by first | assumption | exact Sat.cellm hs (by assumption))) ?_
  clear hs; intro w hs
  refine WL.p Q0 (Yl.not Q0) ?_
  refine Qm ?_
  refine WL.split (d := 15) Q0 (fun h2 => ?_) (fun h2 => ?_)
  ·
   replace h2 := not_eq_true h2
   refine WL.skip (d := 15) Q0 Q0 Q0 Q0 ?_
   refine WL.skip (d := 15) Q0 Q0 Q0 Q0 ?_
   refine WL.skip (d := 15) Q0 Q0 Q0 Q0 ?_
   refine WL.skip (d := 15) Q0 Q0 Q0 Q0 ?_
   refine WL.skip (d := 15) Q0 Q0 Q0 Q0 ?_
   refine WL.skip (d := 15) Q0 Q0 Q0 Q0 ?_
   refine WL.p Q0 (Yl.pickT Q0 Q0) ?_
   refine WL.next ?_
   refine WC.condT Q0 ?_
   refine WC.seq ?_
   refine Qa ?_
   refine WL.next ?_
   refine WC.ret ?_
   refine At.blockret ?_
   refine At.thenret ?_
   refine At.thenret ?_
   refine At.blockret ?_
   refine At.thenret ?_
   refine fin1' rfl Q0 ?_
   refine RetP.mk hs ?_
   simp_all
   try omega
  ·
   replace h2 := not_eq_false h2
   refine WL.run (d := 15) Q0 Q0 ?_
   refine Qm ?_
   refine WL.run (d := 15) Q0 Q0 ?_
   refine WL.p Q0 (Yl.fieldAddr fa216_0 Q0) ?_
   refine WL.run (d := 15) Q0 Q0 ?_
   refine WL.p Q0 (Yl.loadB sca9 Q0 hs Q1 Q0) ?_
   refine WL.run (d := 15) Q0 Q0 ?_
   refine WL.callp hs Q0 (Yc.func Q0 fn189) (c_impl_serverAt _ _ _ (Ph.old h_l hs)) ?_
   clear hs; intro w hs
   refine WL.run (d := 15) Q0 Q0 ?_
   refine Qm ?_
   refine WL.run (d := 15) Q0 Q0 ?_
   refine WL.p Q0 (Yl.nei Q0 Q0) ?_
   refine WL.p Q0 (Yl.pickF Q0 Q0) ?_
   refine WL.next ?_
   refine WC.condS Q0 (fun h3 => ?_) (fun h3 => ?_)
   ·
    replace h3 := not_eq_true h3
    replace h3 := of_decide_eq_false h3
    refine WC.seq ?_
    refine Qa ?_
    refine WL.next ?_
    refine WC.ret ?_
    refine At.blockret ?_
    refine At.thenret ?_
    refine At.thenret ?_
    refine At.blockret ?_
    refine At.thenret ?_
    refine fin1' rfl Q0 ?_
    refine RetP.mk hs ?_
    simp_all
    try omega
   ·
    replace h3 := not_eq_false h3
    replace h3 := of_decide_eq_true h3
    refine WC.skip ?_
    refine At.blocknormal ?_
    refine At.then_ ?_
    refine WC.region ?_
    refine WL.p Q0 (Yl.add Q0 Q0 Q7) ?_
    refine Qm ?_
    refine WL.nil ?_
    refine At.roundC (k + 1) (hs.only Q2) ⟨by rfl, by rfl, by rfl, trivial⟩ ⟨by rfl, trivial⟩ ?_ ?_
    ·
     omega
    ·
     rw [hJ]; simp_all
 ·
  replace h1 := of_decide_eq_false h1
  rw [uniq_end (l := l.l) Q7] at hJ
  refine WC.exit ?_
  refine At.thenexit ?_
  refine At.thenexit ?_
  refine At.blockexit ?_
  refine At.then_ ?_
  refine WC.seq ?_
  refine Qm ?_
  refine WL.p Q0 (Yl.len_sl slu24 Q0) ?_
  refine WL.p Q0 (Yl.leq Q0 Q0) ?_
  refine Qa ?_
  refine WL.next ?_
  refine WC.ret ?_
  refine fin1' rfl Q0 ?_
  refine RetP.mk hs ?_
  simp_all
  try omega

theorem c_impl_IsAddr (a : TAddr) (w : World) (h_a : Ph.ok w a)  : Calls Tryz.prog 121 [.agg #[S a.host, S a.path]].toArray w (RetP w (Bo (a.is))) := by
 refine enterN 11 Tryz.func121 rfl rfl rfl ?_
 have hs := Sat.start w
 refine WC.seq ?_
 refine WL.r Q0 (Yr.box hs Q0 Q0) ?_
 clear hs; rintro _ w ⟨b1, rfl, hb, hs⟩; clear hb
 refine Qa ?_
 refine WL.next ?_
 refine WC.seq ?_
 refine WL.p Q0 (Yl.fieldAddr fa39_0 Q0) ?_
 refine WL.p Q0 (Yl.loadB sca9 Q0 hs Q1 Q0) ?_
 refine WL.callp hs Q0 (Yc.func Q0 fn106) (c_impl_IsName _ _ (Ph.old h_a.host hs)) ?_
 clear hs; intro w hs
 refine Qm ?_
 refine WL.split (d := 6) Q0 (fun h1 => ?_) (fun h1 => ?_)
 ·
  refine WL.run (d := 6) Q0 Q0 ?_
  refine WL.p Q0 (Yl.fieldAddr fa39_1 Q0) ?_
  refine WL.run (d := 6) Q0 Q0 ?_
  refine WL.p Q0 (Yl.loadB sca9 Q0 hs Q1 Q0) ?_
  refine WL.run (d := 6) Q0 Q0 ?_
  refine WL.callp hs Q0 (Yc.func Q0 fn106) (c_impl_IsName _ _ (Ph.old h_a.path hs)) ?_
  clear hs; intro w hs
  refine WL.p Q0 (Yl.pickT Q0 Q0) ?_
  refine Qa ?_
  refine WL.next ?_
  refine WC.ret ?_
  refine fin1' rfl Q0 ?_
  refine RetP.mk hs ?_
  simp_all [TAddr.is]
 ·
  refine WL.skip (d := 6) Q0 Q0 Q0 Q0 ?_
  refine WL.skip (d := 6) Q0 Q0 Q0 Q0 ?_
  refine WL.skip (d := 6) Q0 Q0 Q0 Q0 ?_
  refine WL.p Q0 (Yl.pickF Q0 Q0) ?_
  refine Qa ?_
  refine WL.next ?_
  refine WC.ret ?_
  refine fin1' rfl Q0 ?_
  refine RetP.mk hs ?_
  simp_all [TAddr.is]

theorem c_slices_IndexFunc___impl_Entry_impl_Entry_ (s : (Sl TEntry)) (f : FuncId) (us_f : List Value) (p_f : TEntry → Bool) (w : World) (h_s : Ph.ok w s)  (hfn_f : FN Tryz.prog f) (hf_f : ∀ x ∈ s.l, ∀ w', Below w.heap.size w w' → Calls Tryz.prog f (([.agg (Ph.enc x).toArray] : List Value) ++ us_f).toArray w' (RetP w' (Bo (p_f x)))) : Calls Tryz.prog 207 [Sl.v s, .func (.func f) #[] us_f.toArray].toArray w (RetP w (I (idxF (p_f) s.l 0))) := by
 have hw := h_s.lt
 refine enterN 19 Tryz.func207 rfl rfl rfl ?_
 have hs := Sat.start w
 refine WC.seq ?_
 refine Qa ?_
 refine WL.next ?_
 refine WC.seq' ?_
 refine WC.seq ?_
 refine Qm ?_
 refine WL.p Q0 (Yl.len_sl slu25 Q0) ?_
 refine Qm ?_
 refine WL.next ?_
 refine WC.block ?_
 refine WC.loopC (ι := Nat) (fun k => s.l.length - k) (fun k => [(8, I (k : Int))]) (fun _ => []) (fun k => idxF (p_f) s.l 0 = idxF (p_f) (s.l.drop k) k) [(0, _), (1, _), (7, _)] 0 (hs) ⟨by rfl, by rfl, by rfl, trivial⟩ ⟨by rfl, trivial⟩ ?_ ?_
 ·
  simp
 clear hs; rintro k w hJ hs
 simp only [List.nil_append] at hs
 refine WC.seq ?_
 refine WL.p Q0 (Yl.lss Q0 Q0) ?_
 refine WL.next ?_
 refine WC.seq' ?_
 refine WC.condS Q0 (fun h1 => ?_) (fun h1 => ?_)
 ·
  replace h1 := of_decide_eq_true h1
  obtain ⟨d, hd⟩ := exists_get (l := s.l) (k := k) Q7
  rw [drop_cons hd] at hJ
  refine WC.skipn ?_
  refine WC.seq' ?_
  refine WC.block ?_
  refine WC.seq ?_
  refine Qm ?_
  refine Qa ?_
  refine WL.next ?_
  refine WC.seq ?_
  refine Qm ?_
  refine Qm ?_
  refine Qm ?_
  refine WL.p Q0 (Yl.indexAddr slt25 Q0 Q0 (Ph.old h_s hs) Q0 (hd)) ?_
  refine WL.p Q0 (Yl.loadA agg173 Q0 (Sl.Ok.at_ (Ph.old h_s hs) (by assumption)).2 Q0) ?_
  refine WL.callp hs Q0 (Yc.value Q0 Q0 hfn_f Q0) (hf_f _ (List.mem_of_getElem? (by assumption)) _ hs.below) ?_
  clear hs; intro w hs
  refine WL.next ?_
  refine WC.condS Q0 (fun h2 => ?_) (fun h2 => ?_)
  ·
   refine WC.seq ?_
   refine Qm ?_
   refine Qa ?_
   refine WL.next ?_
   refine WC.ret ?_
   refine At.blockret ?_
   refine At.thenret ?_
   refine At.thenret ?_
   refine At.blockret ?_
   refine At.thenret ?_
   refine fin1' rfl Q0 ?_
   refine RetP.mk hs ?_
   rw [hJ]; simp_all [idxF]
  ·
   refine WC.skip ?_
   refine At.blocknormal ?_
   refine At.then_ ?_
   refine WC.region ?_
   refine WL.p Q0 (Yl.add Q0 Q0 Q7) ?_
   refine Qm ?_
   refine WL.nil ?_
   refine At.roundC (k + 1) (hs.only Q2) ⟨by rfl, by rfl, by rfl, trivial⟩ ⟨by rfl, trivial⟩ ?_ ?_
   ·
    omega
   ·
    rw [hJ]; simp_all [idxF]
 ·
  replace h1 := of_decide_eq_false h1
  rw [drop_out (l := s.l) Q7] at hJ
  refine WC.exit ?_
  refine At.thenexit ?_
  refine At.thenexit ?_
  refine At.blockexit ?_
  refine At.then_ ?_
  refine WC.seq ?_
  refine Qa ?_
  refine WL.next ?_
  refine WC.ret ?_
  refine fin1' rfl Q0 ?_
  refine RetP.mk hs ?_
  rw [hJ]; simp_all [idxF]

theorem c_impl_entryAt_1 (e : TEntry) (top : Str) (b1 : Nat) (a : TAddr) (b2 : Nat) (w : World)   (hc1 : CellsAt w b1 0 [S top]) (hc2 : CellsAt w b2 0 [S a.host, S a.path]) : Calls Tryz.prog 245 [.agg #[S e.top, S e.to.host, S e.to.path, I e.response.status, I e.response.kind, S e.response.body, I e.response.age, Bo e.response.shares, S e.response.policy, I e.until_], bp b1 0, bp b2 0].toArray w (RetP w (Bo (decide (e.top = top) && decide (e.to = a)))) := by
 refine enterN 15 Tryz.func245 rfl rfl rfl ?_
 have hs := Sat.start w
 refine WC.seq ?_
 refine WL.r Q0 (Yr.box hs Q0 Q0) ?_
 clear hs; rintro _ w ⟨b1, rfl, hb, hs⟩; clear hb
 refine Qa ?_
 refine WL.next ?_
 refine WC.seq ?_
 refine WL.p Q0 (Yl.fieldAddr fa173_0 Q0) ?_
 refine WL.p Q0 (Yl.loadB sca9 Q0 hs Q1 Q0) ?_
 refine WL.p Q0 (Yl.loadC0 sca9 Q0 (hc1.ext hs.below) Q0) ?_
 refine WL.p Q0 (Yl.eqs Q0 Q0) ?_
 refine Qm ?_
 refine WL.split (d := 9) Q0 (fun h1 => ?_) (fun h1 => ?_)
 ·
  replace h1 := of_decide_eq_true h1
  refine WL.run (d := 9) Q0 Q0 ?_
  refine WL.p Q0 (Yl.fieldAddr fa173_1 Q0) ?_
  refine WL.run (d := 9) Q0 Q0 ?_
  refine WL.p Q0 (Yl.loadAB agg39 Q0 hs Q1 Q0 Q0) ?_
  refine WL.run (d := 9) Q0 Q0 ?_
  refine WL.p Q0 (Yl.loadA agg39 Q0 (hc2.ext hs.below) Q0) ?_
  refine WL.run (d := 9) Q0 Q0 ?_
  refine WL.p Q0 (Yl.eqt eqt39 Q0 Q0) ?_
  refine WL.p Q0 (Yl.pickT Q0 Q0) ?_
  refine Qa ?_
  refine WL.next ?_
  refine WC.ret ?_
  refine fin1' rfl Q0 ?_
  refine RetP.mk hs ?_
  simp_all
 ·
  replace h1 := of_decide_eq_false h1
  refine WL.skip (d := 9) Q0 Q0 Q0 Q0 ?_
  refine WL.skip (d := 9) Q0 Q0 Q0 Q0 ?_
  refine WL.skip (d := 9) Q0 Q0 Q0 Q0 ?_
  refine WL.skip (d := 9) Q0 Q0 Q0 Q0 ?_
  refine WL.p Q0 (Yl.pickF Q0 Q0) ?_
  refine Qa ?_
  refine WL.next ?_
  refine WC.ret ?_
  refine fin1' rfl Q0 ?_
  refine RetP.mk hs ?_
  simp_all

theorem c_impl_entryAt (c : PCache) (top : Str) (a : TAddr) (w : World) (h_c : Ph.ok w c)  : Calls Tryz.prog 190 [.agg #[Sl.v c.entries], S top, .agg #[S a.host, S a.path]].toArray w (RetP w (I (idxF (fun e : TEntry => decide (e.top = top) && decide (e.to = a)) c.entries.l 0))) := by
 have hw := h_c.entries.lt
 refine enterN 11 Tryz.func190 rfl rfl rfl ?_
 have hs := Sat.start w
 refine WC.seq ?_
 refine WL.r Q0 (Yr.box hs Q0 Q0) ?_
 clear hs; rintro _ w ⟨b1, rfl, hb, hs⟩; clear hb
 refine WL.r Q0 (Yr.box hs Q0 Q0) ?_
 clear hs; rintro _ w ⟨b2, rfl, hb, hs⟩; clear hb
 refine WL.r Q0 (Yr.box hs Q0 Q0) ?_
 clear hs; rintro _ w ⟨b3, rfl, hb, hs⟩; clear hb
 refine Qa ?_
 refine WL.next ?_
 refine WC.seq ?_
 refine WL.p Q0 (Yl.fieldAddr fa27_0 Q0) ?_
 refine WL.p Q0 (Yl.loadB sca25 Q0 hs Q1 Q0) ?_
 refine WL.p Q0 (Yl.makeFunc Q0 Q0) ?_
 refine WL.callp hs Q0 (Yc.func Q0 fn207) (c_slices_IndexFunc___impl_Entry_impl_Entry_ _ 245 _ (fun e : TEntry => decide (e.top = top) && decide (e.to = a)) _ (Ph.old h_c.entries hs) fn245 (fun x hx w1 hb1 => c_impl_entryAt_1 x _ _ _ _ w1 ((hs.ext hb1).box_cells Q1) ((hs.ext hb1).box_cells Q1))) ?_
 clear hs; intro w hs
 refine Qa ?_
 refine WL.next ?_
 refine WC.ret ?_
 refine fin1' rfl Q0 ?_
 refine RetP.mk hs ?_
 rfl

theorem c_impl_IsCache (c : PCache) (w : World) (h_c : Ph.ok w c) (hp : ∀ e ∈ c.entries.l, e.response.policy.length ≤ 1048576) (hm_ : ∃ m, w.cell? ⟨0, 0, none⟩ = some (.int .i64 m)) : Calls Tryz.prog 97 [.agg #[Sl.v c.entries]].toArray w (RetP w (Bo (cacheOk c.lg))) := by
 have hw := h_c.entries.lt
 refine enterN 50 Tryz.func97 rfl rfl rfl ?_
 have hs := Sat.start w
 refine WC.seq ?_
 refine WL.r Q0 (Yr.box hs Q0 Q0) ?_
 clear hs; rintro _ w ⟨b1, rfl, hb, hs⟩; clear hb
 refine Qa ?_
 refine WL.next ?_
 refine WC.seq' ?_
 refine WC.seq ?_
 refine WL.p Q0 (Yl.fieldAddr fa27_0 Q0) ?_
 refine WL.p Q0 (Yl.loadB sca25 Q0 hs Q1 Q0) ?_
 refine WL.p Q0 (Yl.len_sl slu25 Q0) ?_
 refine Qm ?_
 refine WL.next ?_
 refine WC.block ?_
 refine WC.loopC (ι := Nat) (fun k => c.entries.l.length - k) (fun k => [(8, I (k : Int))]) (fun _ => []) (fun k => uniqF entryOk sameEntry [] c.entries.l = uniqF entryOk sameEntry (c.entries.l.take k) (c.entries.l.drop k)) [(0, _), (1, _), (6, _), (7, _)] 0 (hs) ⟨by rfl, by rfl, by rfl, by rfl, trivial⟩ ⟨by rfl, trivial⟩ ?_ ?_
 ·
  simp
 clear hs; rintro k w hJ hs
 simp only [List.nil_append] at hs
 refine WC.seq ?_
 refine WL.p Q0 (Yl.lss Q0 Q0) ?_
 refine WL.next ?_
 refine WC.seq' ?_
 refine WC.condS Q0 (fun h1 => ?_) (fun h1 => ?_)
 ·
  replace h1 := of_decide_eq_true h1
  obtain ⟨d, hd⟩ := exists_get (l := c.entries.l) (k := k) Q7
  rw [uniq_step hd] at hJ
  have hpd : d.response.policy.length ≤ 1048576 := hp d (List.mem_of_getElem? hd)
  have hix := idx_first0 (p := fun e : TEntry => decide (e.top = d.top) && decide (e.to = d.to)) hd (by simp)
  replace hix : _ ↔ (c.entries.l.take k).any (sameEntry d) = false := hix
  generalize (c.entries.l.take k).any (sameEntry d) = u at hJ hix
  refine WC.skipn ?_
  refine WC.seq' ?_
  refine WC.block ?_
  refine WC.seq ?_
  refine Qm ?_
  refine WL.p Q0 (Yl.indexAddr slt25 Q0 Q0 (Ph.old h_c.entries hs) Q0 (hd)) ?_
  refine WL.p Q0 (Yl.loadA agg173 Q0 (Sl.Ok.at_ (Ph.old h_c.entries hs) (by assumption)).2 Q0) ?_
  refine WL.r Q0 (Yr.alloc hs zt173) ?_
  clear hs; rintro _ w ⟨b2, rfl, hb, hs⟩; clear hb
  refine Qa ?_
  refine WL.s (Yr.storeB hs Q0 Q0 Q0 Q5 Q3 Q0 (by exact szf173)) ?_
  clear hs; rintro _ w hs
  refine WL.next ?_
  refine WC.seq ?_
  refine WL.p Q0 (Yl.fieldAddr fa173_0 Q0) ?_
  refine WL.p Q0 (Yl.loadB sca9 Q0 hs Q1 Q0) ?_
  refine WL.callp hs Q0 (Yc.func Q0 fn106) (c_impl_IsName _ _ (Ph.old (Sl.Ok.elem h_c.entries hd).top hs)) ?_
  clear hs; intro w hs
  refine WL.p Q0 (Yl.not Q0) ?_
  refine Qm ?_
  refine WL.split (d := 17) Q0 (fun h2 => ?_) (fun h2 => ?_)
  ·
   replace h2 := not_eq_true h2
   refine WL.skip (d := 17) Q0 Q0 Q0 Q0 ?_
   refine WL.skip (d := 17) Q0 Q0 Q0 Q0 ?_
   refine WL.skip (d := 17) Q0 Q0 Q0 Q0 ?_
   refine WL.skip (d := 17) Q0 Q0 Q0 Q0 ?_
   refine WL.p Q0 (Yl.pickT Q0 Q0) ?_
   refine Qm ?_
   refine WL.skip (d := 23) Q0 Q0 Q0 Q0 ?_
   refine WL.skip (d := 23) Q0 Q0 Q0 Q0 ?_
   refine WL.skip (d := 23) Q0 Q0 Q0 Q0 ?_
   refine WL.skip (d := 23) Q0 Q0 Q0 Q0 ?_
   refine WL.p Q0 (Yl.pickT Q0 Q0) ?_
   refine Qm ?_
   refine WL.skip (d := 29) Q0 Q0 Q0 Q0 ?_
   refine WL.skip (d := 29) Q0 Q0 Q0 Q0 ?_
   refine WL.skip (d := 29) Q0 Q0 Q0 Q0 ?_
   refine WL.skip (d := 29) Q0 Q0 Q0 Q0 ?_
   refine WL.p Q0 (Yl.pickT Q0 Q0) ?_
   refine Qm ?_
   refine WL.skip (d := 35) Q0 Q0 Q0 Q0 ?_
   refine WL.skip (d := 35) Q0 Q0 Q0 Q0 ?_
   refine WL.skip (d := 35) Q0 Q0 Q0 Q0 ?_
   refine WL.skip (d := 35) Q0 Q0 Q0 Q0 ?_
   refine WL.skip (d := 35) Q0 Q0 Q0 Q0 ?_
   refine WL.skip (d := 35) Q0 Q0 Q0 Q0 ?_
   refine WL.skip (d := 35) Q0 Q0 Q0 Q0 ?_
   refine WL.skip (d := 35) Q0 Q0 Q0 Q0 ?_
   refine WL.p Q0 (Yl.pickT Q0 Q0) ?_
   refine WL.next ?_
   refine WC.condT Q0 ?_
   refine WC.seq ?_
   refine Qa ?_
   refine WL.next ?_
   refine WC.ret ?_
   refine At.blockret ?_
   refine At.thenret ?_
   refine At.thenret ?_
   refine At.blockret ?_
   refine At.thenret ?_
   refine fin1' rfl Q0 ?_
   refine RetP.mk hs ?_
   simp only [cacheOk]
   simp_all [entryOk]
   try omega
  ·
   replace h2 := not_eq_false h2
   refine WL.run (d := 17) Q0 Q0 ?_
   refine WL.p Q0 (Yl.fieldAddr fa173_1 Q0) ?_
   refine WL.run (d := 17) Q0 Q0 ?_
   refine WL.p Q0 (Yl.loadAB agg39 Q0 hs Q1 Q0 Q0) ?_
   refine WL.run (d := 17) Q0 Q0 ?_
   refine WL.callp hs Q0 (Yc.func Q0 fn121) (c_impl_IsAddr _ _ ⟨(Ph.old (Sl.Ok.elem h_c.entries hd).to.host hs), (Ph.old (Sl.Ok.elem h_c.entries hd).to.path hs)⟩) ?_
   clear hs; intro w hs
   refine WL.run (d := 17) Q0 Q0 ?_
   refine WL.p Q0 (Yl.not Q0) ?_
   refine WL.p Q0 (Yl.pickF Q0 Q0) ?_
   refine Qm ?_
   refine WL.split (d := 23) Q0 (fun h3 => ?_) (fun h3 => ?_)
   ·
    replace h3 := not_eq_true h3
    refine WL.skip (d := 23) Q0 Q0 Q0 Q0 ?_
    refine WL.skip (d := 23) Q0 Q0 Q0 Q0 ?_
    refine WL.skip (d := 23) Q0 Q0 Q0 Q0 ?_
    refine WL.skip (d := 23) Q0 Q0 Q0 Q0 ?_
    refine WL.p Q0 (Yl.pickT Q0 Q0) ?_
    refine Qm ?_
    refine WL.skip (d := 29) Q0 Q0 Q0 Q0 ?_
    refine WL.skip (d := 29) Q0 Q0 Q0 Q0 ?_
    refine WL.skip (d := 29) Q0 Q0 Q0 Q0 ?_
    refine WL.skip (d := 29) Q0 Q0 Q0 Q0 ?_
    refine WL.p Q0 (Yl.pickT Q0 Q0) ?_
    refine Qm ?_
    refine WL.skip (d := 35) Q0 Q0 Q0 Q0 ?_
    refine WL.skip (d := 35) Q0 Q0 Q0 Q0 ?_
    refine WL.skip (d := 35) Q0 Q0 Q0 Q0 ?_
    refine WL.skip (d := 35) Q0 Q0 Q0 Q0 ?_
    refine WL.skip (d := 35) Q0 Q0 Q0 Q0 ?_
    refine WL.skip (d := 35) Q0 Q0 Q0 Q0 ?_
    refine WL.skip (d := 35) Q0 Q0 Q0 Q0 ?_
    refine WL.skip (d := 35) Q0 Q0 Q0 Q0 ?_
    refine WL.p Q0 (Yl.pickT Q0 Q0) ?_
    refine WL.next ?_
    refine WC.condT Q0 ?_
    refine WC.seq ?_
    refine Qa ?_
    refine WL.next ?_
    refine WC.ret ?_
    refine At.blockret ?_
    refine At.thenret ?_
    refine At.thenret ?_
    refine At.blockret ?_
    refine At.thenret ?_
    refine fin1' rfl Q0 ?_
    refine RetP.mk hs ?_
    simp only [cacheOk]
    simp_all [entryOk]
    try omega
   ·
    replace h3 := not_eq_false h3
    refine WL.run (d := 23) Q0 Q0 ?_
    refine WL.p Q0 (Yl.fieldAddr fa173_2 Q0) ?_
    refine WL.run (d := 23) Q0 Q0 ?_
    refine WL.p Q0 (Yl.loadAB agg72 Q0 hs Q1 Q0 Q0) ?_
    refine WL.run (d := 23) Q0 Q0 ?_
    refine WL.callp hs Q0 (Yc.func Q0 fn130) (c_impl_IsResponse _ _ ⟨(Ph.old (Sl.Ok.elem h_c.entries hd).response.status hs), (Ph.old (Sl.Ok.elem h_c.entries hd).response.kind hs), (Ph.old (Sl.Ok.elem h_c.entries hd).response.body hs), (Ph.old (Sl.Ok.elem h_c.entries hd).response.age hs), (Ph.old (Sl.Ok.elem h_c.entries hd).response.shares hs), (Ph.old (Sl.Ok.elem h_c.entries hd).response.policy hs)⟩ (by first | assumption | omega) (by first | assumption | exact Sat.cellm hs (by assumption))) ?_
    clear hs; intro w hs
    refine WL.run (d := 23) Q0 Q0 ?_
    refine WL.p Q0 (Yl.not Q0) ?_
    refine WL.p Q0 (Yl.pickF Q0 Q0) ?_
    refine Qm ?_
    refine WL.split (d := 29) Q0 (fun h4 => ?_) (fun h4 => ?_)
    ·
     replace h4 := not_eq_true h4
     refine WL.skip (d := 29) Q0 Q0 Q0 Q0 ?_
     refine WL.skip (d := 29) Q0 Q0 Q0 Q0 ?_
     refine WL.skip (d := 29) Q0 Q0 Q0 Q0 ?_
     refine WL.skip (d := 29) Q0 Q0 Q0 Q0 ?_
     refine WL.p Q0 (Yl.pickT Q0 Q0) ?_
     refine Qm ?_
     refine WL.skip (d := 35) Q0 Q0 Q0 Q0 ?_
     refine WL.skip (d := 35) Q0 Q0 Q0 Q0 ?_
     refine WL.skip (d := 35) Q0 Q0 Q0 Q0 ?_
     refine WL.skip (d := 35) Q0 Q0 Q0 Q0 ?_
     refine WL.skip (d := 35) Q0 Q0 Q0 Q0 ?_
     refine WL.skip (d := 35) Q0 Q0 Q0 Q0 ?_
     refine WL.skip (d := 35) Q0 Q0 Q0 Q0 ?_
     refine WL.skip (d := 35) Q0 Q0 Q0 Q0 ?_
     refine WL.p Q0 (Yl.pickT Q0 Q0) ?_
     refine WL.next ?_
     refine WC.condT Q0 ?_
     refine WC.seq ?_
     refine Qa ?_
     refine WL.next ?_
     refine WC.ret ?_
     refine At.blockret ?_
     refine At.thenret ?_
     refine At.thenret ?_
     refine At.blockret ?_
     refine At.thenret ?_
     refine fin1' rfl Q0 ?_
     refine RetP.mk hs ?_
     simp only [cacheOk]
     simp_all [entryOk]
     try omega
    ·
     replace h4 := not_eq_false h4
     refine WL.run (d := 29) Q0 Q0 ?_
     refine WL.p Q0 (Yl.fieldAddr fa173_2 Q0) ?_
     refine WL.run (d := 29) Q0 Q0 ?_
     refine WL.p Q0 (Yl.fieldAddr fa72_0 Q0) ?_
     refine WL.run (d := 29) Q0 Q0 ?_
     refine WL.p Q0 (Yl.loadB sca3 Q0 hs Q1 Q0) ?_
     refine WL.run (d := 29) Q0 Q0 ?_
     refine WL.p Q0 (Yl.nei Q0 Q0) ?_
     refine WL.p Q0 (Yl.pickF Q0 Q0) ?_
     refine Qm ?_
     refine WL.split (d := 35) Q0 (fun h5 => ?_) (fun h5 => ?_)
     ·
      replace h5 := not_eq_true h5
      replace h5 := of_decide_eq_false h5
      refine WL.skip (d := 35) Q0 Q0 Q0 Q0 ?_
      refine WL.skip (d := 35) Q0 Q0 Q0 Q0 ?_
      refine WL.skip (d := 35) Q0 Q0 Q0 Q0 ?_
      refine WL.skip (d := 35) Q0 Q0 Q0 Q0 ?_
      refine WL.skip (d := 35) Q0 Q0 Q0 Q0 ?_
      refine WL.skip (d := 35) Q0 Q0 Q0 Q0 ?_
      refine WL.skip (d := 35) Q0 Q0 Q0 Q0 ?_
      refine WL.skip (d := 35) Q0 Q0 Q0 Q0 ?_
      refine WL.p Q0 (Yl.pickT Q0 Q0) ?_
      refine WL.next ?_
      refine WC.condT Q0 ?_
      refine WC.seq ?_
      refine Qa ?_
      refine WL.next ?_
      refine WC.ret ?_
      refine At.blockret ?_
      refine At.thenret ?_
      refine At.thenret ?_
      refine At.blockret ?_
      refine At.thenret ?_
      refine fin1' rfl Q0 ?_
      refine RetP.mk hs ?_
      simp only [cacheOk]
      simp_all [entryOk]
      try omega
     ·
      replace h5 := not_eq_false h5
      replace h5 := of_decide_eq_true h5
      refine WL.run (d := 35) Q0 Q0 ?_
      refine WL.p Q0 (Yl.loadAB agg27 Q0 hs Q1 Q0 Q0) ?_
      refine WL.run (d := 35) Q0 Q0 ?_
      refine WL.p Q0 (Yl.fieldAddr fa173_0 Q0) ?_
      refine WL.run (d := 35) Q0 Q0 ?_
      refine WL.p Q0 (Yl.loadB sca9 Q0 hs Q1 Q0) ?_
      refine WL.run (d := 35) Q0 Q0 ?_
      refine WL.p Q0 (Yl.fieldAddr fa173_1 Q0) ?_
      refine WL.run (d := 35) Q0 Q0 ?_
      refine WL.p Q0 (Yl.loadAB agg39 Q0 hs Q1 Q0 Q0) ?_
      refine WL.run (d := 35) Q0 Q0 ?_
      refine WL.callp hs Q0 (Yc.func Q0 fn190) (c_impl_entryAt _ _ _ _ (Ph.old h_c hs)) ?_
      clear hs; intro w hs
      refine WL.run (d := 35) Q0 Q0 ?_
      refine Qm ?_
      refine WL.run (d := 35) Q0 Q0 ?_
      refine WL.p Q0 (Yl.nei Q0 Q0) ?_
      refine WL.p Q0 (Yl.pickF Q0 Q0) ?_
      refine WL.next ?_
      refine WC.condS Q0 (fun h6 => ?_) (fun h6 => ?_)
      ·
       replace h6 := not_eq_true h6
       replace h6 := of_decide_eq_false h6
       refine WC.seq ?_
       refine Qa ?_
       refine WL.next ?_
       refine WC.ret ?_
       refine At.blockret ?_
       refine At.thenret ?_
       refine At.thenret ?_
       refine At.blockret ?_
       refine At.thenret ?_
       refine fin1' rfl Q0 ?_
       refine RetP.mk hs ?_
       simp only [cacheOk]
       simp_all [entryOk]
       try omega
      ·
       replace h6 := not_eq_false h6
       replace h6 := of_decide_eq_true h6
       refine WC.skip ?_
       refine At.blocknormal ?_
       refine At.then_ ?_
       refine WC.region ?_
       refine WL.p Q0 (Yl.add Q0 Q0 Q7) ?_
       refine Qm ?_
       refine WL.nil ?_
       refine At.roundC (k + 1) (hs.only Q2) ⟨by rfl, by rfl, by rfl, by rfl, trivial⟩ ⟨by rfl, trivial⟩ ?_ ?_
       ·
        omega
       ·
        rw [hJ]; simp_all [entryOk]
 ·
  replace h1 := of_decide_eq_false h1
  rw [uniq_end (l := c.entries.l) Q7] at hJ
  refine WC.exit ?_
  refine At.thenexit ?_
  refine At.thenexit ?_
  refine At.blockexit ?_
  refine At.then_ ?_
  refine WC.seq ?_
  refine WL.p Q0 (Yl.fieldAddr fa27_0 Q0) ?_
  refine WL.p Q0 (Yl.loadB sca25 Q0 hs Q1 Q0) ?_
  refine WL.p Q0 (Yl.len_sl slu25 Q0) ?_
  refine WL.p Q0 (Yl.leq Q0 Q0) ?_
  refine Qa ?_
  refine WL.next ?_
  refine WC.ret ?_
  refine fin1' rfl Q0 ?_
  refine RetP.mk hs ?_
  simp only [cacheOk]
  simp_all [entryOk]
  try omega

theorem c_impl_IsNet (n : PNet) (w : World) (h_n : Ph.ok w n) (hbs : lsz TServer.size n.lg.servers ≤ 1048576) (hbc : n.lg.cache.size ≤ 1048576) (hbl : n.log.l.length ≤ 1048577) (hm_ : ∃ m, w.cell? ⟨0, 0, none⟩ = some (.int .i64 m)) : Calls Tryz.prog 21 [.agg #[Sl.v n.servers, Sl.v n.cache.entries, Sl.v n.log, I n.now]].toArray w (RetP w (Bo (netOk n.lg))) := by
 refine enterN 22 Tryz.func21 rfl rfl rfl ?_
 have hs := Sat.start w
 refine WC.seq ?_
 refine WL.r Q0 (Yr.box hs Q0 Q0) ?_
 clear hs; rintro _ w ⟨b1, rfl, hb, hs⟩; clear hb
 refine Qa ?_
 refine WL.next ?_
 refine WC.seq ?_
 refine WL.p Q0 (Yl.fieldAddr fa30_0 Q0) ?_
 refine WL.p Q0 (Yl.loadB sca24 Q0 hs Q1 Q0) ?_
 refine WL.callp hs Q0 (Yc.func Q0 fn96) (c_impl_AreServers _ _ (Ph.old h_n.servers hs) (by exact hbs) (by first | assumption | exact Sat.cellm hs (by assumption))) ?_
 clear hs; intro w hs
 refine Qm ?_
 refine WL.split (d := 6) Q0 (fun h1 => ?_) (fun h1 => ?_)
 ·
  refine WL.run (d := 6) Q0 Q0 ?_
  refine WL.p Q0 (Yl.fieldAddr fa30_1 Q0) ?_
  refine WL.run (d := 6) Q0 Q0 ?_
  refine WL.p Q0 (Yl.loadAB agg27 Q0 hs Q1 Q0 Q0) ?_
  refine WL.run (d := 6) Q0 Q0 ?_
  refine WL.callp hs Q0 (Yc.func Q0 fn97) (c_impl_IsCache _ _ ⟨(Ph.old h_n.cache.entries hs)⟩ (by show ∀ e ∈ (PCache.lg _).entries, _; exact cache_pol hbc) (by first | assumption | exact Sat.cellm hs (by assumption))) ?_
  clear hs; intro w hs
  refine WL.p Q0 (Yl.pickT Q0 Q0) ?_
  refine Qm ?_
  refine WL.split (d := 11) Q0 (fun h2 => ?_) (fun h2 => ?_)
  ·
   refine WL.run (d := 11) Q0 Q0 ?_
   refine WL.p Q0 (Yl.fieldAddr fa30_2 Q0) ?_
   refine WL.run (d := 11) Q0 Q0 ?_
   refine WL.p Q0 (Yl.loadB sca28 Q0 hs Q1 Q0) ?_
   refine WL.run (d := 11) Q0 Q0 ?_
   refine WL.p Q0 (Yl.len_sl slu28 Q0) ?_
   refine WL.run (d := 11) Q0 Q0 ?_
   refine WL.p Q0 (Yl.leq Q0 Q0) ?_
   refine WL.p Q0 (Yl.pickT Q0 Q0) ?_
   refine Qm ?_
   refine WL.split (d := 17) Q0 (fun h3 => ?_) (fun h3 => ?_)
   ·
    replace h3 := of_decide_eq_true h3
    refine WL.run (d := 17) Q0 Q0 ?_
    refine WL.p Q0 (Yl.fieldAddr fa30_3 Q0) ?_
    refine WL.run (d := 17) Q0 Q0 ?_
    refine WL.p Q0 (Yl.loadB sca3 Q0 hs Q1 Q0) ?_
    refine WL.run (d := 17) Q0 Q0 ?_
    refine WL.callp hs Q0 (Yc.func Q0 fn90) (c_impl_InRange _ _ _ _) ?_
    clear hs; intro w hs
    refine WL.p Q0 (Yl.pickT Q0 Q0) ?_
    refine Qa ?_
    refine WL.next ?_
    refine WC.ret ?_
    refine fin1' rfl Q0 ?_
    refine RetP.mk hs ?_
    simp_all [netOk, inR]
    try omega
   ·
    replace h3 := of_decide_eq_false h3
    refine WL.skip (d := 17) Q0 Q0 Q0 Q0 ?_
    refine WL.skip (d := 17) Q0 Q0 Q0 Q0 ?_
    refine WL.skip (d := 17) Q0 Q0 Q0 Q0 ?_
    refine WL.p Q0 (Yl.pickF Q0 Q0) ?_
    refine Qa ?_
    refine WL.next ?_
    refine WC.ret ?_
    refine fin1' rfl Q0 ?_
    refine RetP.mk hs ?_
    simp_all [netOk, inR]
    try omega
  ·
   refine WL.skip (d := 11) Q0 Q0 Q0 Q0 ?_
   refine WL.skip (d := 11) Q0 Q0 Q0 Q0 ?_
   refine WL.skip (d := 11) Q0 Q0 Q0 Q0 ?_
   refine WL.skip (d := 11) Q0 Q0 Q0 Q0 ?_
   refine WL.p Q0 (Yl.pickF Q0 Q0) ?_
   refine Qm ?_
   refine WL.skip (d := 17) Q0 Q0 Q0 Q0 ?_
   refine WL.skip (d := 17) Q0 Q0 Q0 Q0 ?_
   refine WL.skip (d := 17) Q0 Q0 Q0 Q0 ?_
   refine WL.p Q0 (Yl.pickF Q0 Q0) ?_
   refine Qa ?_
   refine WL.next ?_
   refine WC.ret ?_
   refine fin1' rfl Q0 ?_
   refine RetP.mk hs ?_
   simp_all [netOk, inR]
   try omega
 ·
  refine WL.skip (d := 6) Q0 Q0 Q0 Q0 ?_
  refine WL.skip (d := 6) Q0 Q0 Q0 Q0 ?_
  refine WL.skip (d := 6) Q0 Q0 Q0 Q0 ?_
  refine WL.p Q0 (Yl.pickF Q0 Q0) ?_
  refine Qm ?_
  refine WL.skip (d := 11) Q0 Q0 Q0 Q0 ?_
  refine WL.skip (d := 11) Q0 Q0 Q0 Q0 ?_
  refine WL.skip (d := 11) Q0 Q0 Q0 Q0 ?_
  refine WL.skip (d := 11) Q0 Q0 Q0 Q0 ?_
  refine WL.p Q0 (Yl.pickF Q0 Q0) ?_
  refine Qm ?_
  refine WL.skip (d := 17) Q0 Q0 Q0 Q0 ?_
  refine WL.skip (d := 17) Q0 Q0 Q0 Q0 ?_
  refine WL.skip (d := 17) Q0 Q0 Q0 Q0 ?_
  refine WL.p Q0 (Yl.pickF Q0 Q0) ?_
  refine Qa ?_
  refine WL.next ?_
  refine WC.ret ?_
  refine fin1' rfl Q0 ?_
  refine RetP.mk hs ?_
  simp_all [netOk, inR]
  try omega

theorem c_impl_copyServers (l : (Sl PServer)) (w : World) (h_l : Ph.ok w l) (hb : lsz TServer.size (l.l.map PServer.lg) ≤ 1048576) : Calls Tryz.prog 181 [Sl.v l].toArray w (Ret w (fun v w' => ∃ x : Sl PServer, v = x.v ∧ x.l.map PServer.lg = l.l.map PServer.lg ∧ Fresh w x w')) := by
 have hw := h_l.lt
 have hbl : l.l.length ≤ 1048576 := by simp only [lsz, List.length_map] at hb; omega
 refine enterN 25 Tryz.func181 rfl rfl rfl ?_
 have hs := Sat.start w
 refine WC.seq ?_
 refine Qa ?_
 refine WL.next ?_
 refine WC.seq ?_
 refine WL.r Q0 (Yr.buildSlice hs sll24 Q0 Q0 Q0 Q4 Q0) ?_
 clear hs; rintro _ w ⟨b1, rfl, hb, hs⟩; clear hb
 refine Qa ?_
 refine WL.next ?_
 refine WC.seq' ?_
 refine WC.seq ?_
 refine Qm ?_
 refine WL.p Q0 (Yl.len_sl slu24 Q0) ?_
 refine Qm ?_
 refine WL.next ?_
 refine WC.block ?_
 replace hs := Sat.boxow (l := ([] : List PServer)) hs rfl rfl (by simp) rfl
 refine WC.loopC (ι := Nat × Sl PServer × List Nat) (fun ⟨k, q, F⟩ => l.l.length - k) (fun ⟨k, q, F⟩ => [(9, I (k : Int)), (3, q.v)]) (fun ⟨k, q, F⟩ => [ow q F]) (fun ⟨k, q, F⟩ => k ≤ l.l.length ∧ q.l.map PServer.lg = (l.l.take k).map PServer.lg) [(0, _), (2, _), (7, _), (8, _)] (0, ⟨[], some ⟨b1, 0, none⟩, 0⟩, [b1]) (hs.sel (D := [ow (⟨[], some ⟨b1, 0, none⟩, 0⟩ : Sl PServer) [b1]]) Q2) ⟨by rfl, by rfl, by rfl, by rfl, trivial⟩ ⟨by rfl, by rfl, trivial⟩ ?_ ?_
 ·
  exact ⟨Nat.zero_le _, rfl⟩
 clear hs; rintro ⟨k, q, F⟩ w ⟨hJ1, hJ2⟩ hs
 simp only [List.cons_append, List.nil_append] at hs
 refine WC.seq ?_
 refine WL.p Q0 (Yl.lss Q0 Q0) ?_
 refine WL.next ?_
 refine WC.seq' ?_
 refine WC.condS Q0 (fun h1 => ?_) (fun h1 => ?_)
 ·
  replace h1 := of_decide_eq_true h1
  obtain ⟨d, hd⟩ := exists_get (l := l.l) (k := k) Q7
  have hql : q.l.length = k := by have := congrArg List.length hJ2; simp at this; omega
  have hdl := lsum_le (f := fun d : PServer => d.lg.size) (List.mem_of_getElem? hd)
  have hdf : d.files.l.length ≤ 1048576 := by rw [lsz_map] at hb; simp only [lsz, TServer.size] at hb hdl; omega
  refine WC.skipn ?_
  refine WC.seq' ?_
  refine WC.block ?_
  refine WC.seq ?_
  refine WL.p Q0 (Yl.indexAddr slt24 Q0 Q0 (Ph.old h_l hs) Q0 (hd)) ?_
  refine WL.p Q0 (Yl.loadA agg216 Q0 (Sl.Ok.at_ (Ph.old h_l hs) (by assumption)).2 Q0) ?_
  refine WL.r Q0 (Yr.alloc hs zt216) ?_
  clear hs; rintro _ w ⟨b2, rfl, hb, hs⟩; clear hb
  refine WL.s (Yr.storeB hs Q0 Q0 Q0 Q5 Q3 Q0 (by exact szf216)) ?_
  clear hs; rintro _ w hs
  refine WL.next ?_
  refine WC.anyX (K := [ow q F]) mixed hs Q2 ?_
  clear hs; intro w hs
  refine WA.p (i := 0) Q0 Q6 Q6 Q6 Q0 (hs.only Q2) (fun w hs => Yl.move Q0) ?_
  refine WA.p (i := 1) Q0 Q6 Q6 Q6 Q0 (hs.only Q2) (fun w hs => Yl.fieldAddr fa216_0 Q0) ?_
  refine WA.p (i := 2) Q0 Q6 Q6 Q6 Q0 (hs.only Q2) (fun w hs => Yl.loadB sca9 Q0 hs Q1 Q0) ?_
  refine WA.p (i := 4) Q0 Q6 Q6 Q6 Q0 (hs.only Q2) (fun w hs => Yl.fieldAddr fa216_1 Q0) ?_
  refine WA.p (i := 5) Q0 Q6 Q6 Q6 Q0 (hs.only Q2) (fun w hs => Yl.loadB sca214 Q0 hs Q1 Q0) ?_
  refine WA.r (i := 3) Q6 Q0 Q0 (Yr.buildSlice hs sll214 Q0 Q0 Q0 Q4 Q0) (by rintro _ w ⟨b3, rfl, hb, hs⟩; exact hs.only Q2) ?_
  clear hs; rintro _ w ⟨b3, rfl, hb, hs⟩; clear hb
  replace hs := (Sat.boxow (l := ([] : List TFile)) (hs.sel (D := [box b3 _ _]) Q2) rfl rfl (by simp [maxLen]) (ownL_mk_flat (by simp)))
  refine WA.r (i := 6) Q6 Q0 Q0 (Yr.appendS (s := (⟨[], some ⟨b3, 0, none⟩, _⟩ : Sl TFile)) (F := [b3]) (r := d.files) hs elt214 Q2 Q0 Q0 (Ph.old (Sl.Ok.elem h_l hd).files hs) (by first | (rw [hql]; unfold maxLen; omega) | (simp; unfold maxLen; omega)) (by first | (rw [hql]; omega) | (simp; omega))) (by rintro _ w ⟨s4, F4, rfl, hl4, hs⟩; exact hs.only Q2) ?_
  clear hs; rintro _ w ⟨s4, F4, rfl, hl4, hs⟩
  refine WA.p (i := 7) Q0 Q6 Q6 Q6 Q0 (hs.only Q2) (fun w hs => Yl.build bt216 Q0 Q4) ?_
  refine WA.r (i := 8) Q6 Q0 Q0 (Yr.buildSlice hs sll24 Q0 Q0 Q0 Q4 Q0) (by rintro _ w ⟨b5, rfl, hb, hs⟩; exact hs.only Q2) ?_
  clear hs; rintro _ w ⟨b5, rfl, hb, hs⟩; clear hb
  replace hs := PServer.join (⟨d.host, s4⟩ : PServer) (hs.sel (D := [ow s4 F4]) Q2) (by first | exact (Ph.old (Sl.Ok.elem h_l hd).host hs) | (refine Ph.old ?_ hs; assumption))
  try simp only [List.cons_append, List.nil_append] at hs
  refine WA.r (i := 9) Q6 Q0 Q0 (Yr.appendE (s := q) (F := F) (u := (⟨d.host, s4⟩ : PServer)) (G := F4) hs elt24 Q2 Q0 Q0 (hs.box_cells Q1) (by first | (rw [hql]; unfold maxLen; omega) | (simp; unfold maxLen; omega)) (by first | (rw [hql]; omega) | (simp; omega))) (by rintro _ w ⟨s6, F6, rfl, hl6, hs⟩; exact hs.only Q2) ?_
  clear hs; rintro _ w ⟨s6, F6, rfl, hl6, hs⟩
  refine WA.p (i := 10) Q0 Q6 Q6 Q6 Q0 (hs.only Q2) (fun w hs => Yl.assign Q0) ?_
  refine WA.done Q6 ?_
  refine At.blocknormal ?_
  refine At.then_ ?_
  refine WC.region ?_
  refine WL.p Q0 (Yl.add Q0 Q0 Q7) ?_
  refine Qm ?_
  refine WL.nil ?_
  refine At.roundC (k + 1, s6, F6) (hs.only Q2) ⟨by rfl, by rfl, by rfl, by rfl, trivial⟩ ⟨by rfl, by rfl, trivial⟩ ?_ ?_
  ·
   show l.l.length - (k + 1) < l.l.length - k
   omega
  ·
   exact ⟨by omega, by rw [hl6, List.map_append, hJ2, List.take_add_one, hd]; simp [PServer.lg, *]⟩
 ·
  replace h1 := of_decide_eq_false h1
  refine WC.exit ?_
  refine At.thenexit ?_
  refine At.thenexit ?_
  refine At.blockexit ?_
  refine At.then_ ?_
  refine WC.seq ?_
  refine Qm ?_
  refine Qa ?_
  refine WL.next ?_
  refine WC.ret ?_
  refine fin1' rfl Q0 ?_
  refine Ret.mk hs ?_
  exact ⟨q, rfl, by rw [hJ2, show k = l.l.length from by omega, List.take_length], hs.fresh Q1⟩

theorem c_impl_copyCache (c : PCache) (w : World) (h_c : Ph.ok w c) (hb : c.lg.size ≤ 1048576) : Calls Tryz.prog 182 [.agg #[Sl.v c.entries]].toArray w (Ret w (fun v w' => ∃ x : PCache, v = .agg (Ph.enc x).toArray ∧ x.lg = c.lg ∧ Fresh w x w')) := by
 have hw := h_c.entries.lt
 refine enterN 8 Tryz.func182 rfl rfl rfl ?_
 have hs := Sat.start w
 refine WC.seq ?_
 refine WL.r Q0 (Yr.box hs Q0 Q0) ?_
 clear hs; rintro _ w ⟨b1, rfl, hb, hs⟩; clear hb
 refine WL.r Q0 (Yr.alloc hs zt27) ?_
 clear hs; rintro _ w ⟨b2, rfl, hb, hs⟩; clear hb
 refine WL.next ?_
 refine WC.seq ?_
 refine WL.r Q0 (Yr.buildSlice hs sll25 Q0 Q0 Q0 Q4 Q0) ?_
 clear hs; rintro _ w ⟨b3, rfl, hb, hs⟩; clear hb
 refine WL.p Q0 (Yl.fieldAddr fa27_0 Q0) ?_
 refine WL.p Q0 (Yl.loadB sca25 Q0 hs Q1 Q0) ?_
 replace hs := (Sat.boxow (l := ([] : List TEntry)) (hs.sel (D := [box b3 _ _]) Q2) rfl rfl (by simp [maxLen]) (ownL_mk_flat (by simp)))
 refine WL.r Q0 (Yr.appendS (s := (⟨[], some ⟨b3, 0, none⟩, _⟩ : Sl TEntry)) (F := [b3]) (r := c.entries) hs elt25 Q2 Q0 Q0 (Ph.old h_c.entries hs) (by simp; unfold maxLen; omega) (by simp only [TCache.size, lsz] at hb; simp; omega)) ?_
 clear hs; rintro _ w ⟨s4, F4, rfl, hl4, hs⟩
 refine WL.p Q0 (Yl.build bt27 Q0 Q4) ?_
 refine WL.s (Yr.storeB hs Q0 Q0 Q0 Q5 Q3 Q0 (by exact szf27)) ?_
 clear hs; rintro _ w hs
 refine WL.next ?_
 refine WC.ret ?_
 refine fin1c rfl agg27 Q0 hs Q1 Q0 ?_
 refine Ret.mk hs ?_
 refine ⟨⟨s4⟩, rfl, ?_, ?_⟩
 · simp_all
 · exact (PCache.join _ (hs.only (D := [ow s4 F4]) Q2) ).fresh List.mem_cons_self

theorem c_impl_copyNet (n : PNet) (w : World) (h_n : Ph.ok w n) (hbs : lsz TServer.size n.lg.servers ≤ 1048576) (hbc : n.lg.cache.size ≤ 1048576) (hbl : n.log.l.length ≤ 1048577) : Calls Tryz.prog 89 [.agg #[Sl.v n.servers, Sl.v n.cache.entries, Sl.v n.log, I n.now]].toArray w (Ret w (fun v w' => ∃ x : PNet, v = .agg (Ph.enc x).toArray ∧ x.lg = n.lg ∧ Fresh w x w')) := by
 refine enterN 16 Tryz.func89 rfl rfl rfl ?_
 have hs := Sat.start w
 refine WC.seq ?_
 refine WL.r Q0 (Yr.box hs Q0 Q0) ?_
 clear hs; rintro _ w ⟨b1, rfl, hb, hs⟩; clear hb
 refine WL.r Q0 (Yr.alloc hs zt30) ?_
 clear hs; rintro _ w ⟨b2, rfl, hb, hs⟩; clear hb
 refine WL.next ?_
 refine WC.anyn2 (c := box b2 _ _) mixed hs (by repeat (first | exact Ext.here | apply Ext.there)) ?_
 clear hs; intro w hs
 refine WA.p (i := 0) Q0 Q6 Q6 Q6 Q0 (hs.only Q2) (fun w hs => Yl.fieldAddr fa30_0 Q0) ?_
 refine WA.p (i := 1) Q0 Q6 Q6 Q6 Q0 (hs.only Q2) (fun w hs => Yl.loadB sca24 Q0 hs Q1 Q0) ?_
 refine WA.p (i := 3) Q0 Q6 Q6 Q6 Q0 (hs.only Q2) (fun w hs => Yl.fieldAddr fa30_1 Q0) ?_
 refine WA.p (i := 4) Q0 Q6 Q6 Q6 Q0 (hs.only Q2) (fun w hs => Yl.loadAB agg27 Q0 hs Q1 Q0 Q0) ?_
 refine WA.p (i := 7) Q0 Q6 Q6 Q6 Q0 (hs.only Q2) (fun w hs => Yl.fieldAddr fa30_2 Q0) ?_
 refine WA.p (i := 8) Q0 Q6 Q6 Q6 Q0 (hs.only Q2) (fun w hs => Yl.loadB sca28 Q0 hs Q1 Q0) ?_
 refine WA.p (i := 10) Q0 Q6 Q6 Q6 Q0 (hs.only Q2) (fun w hs => Yl.fieldAddr fa30_3 Q0) ?_
 refine WA.p (i := 11) Q0 Q6 Q6 Q6 Q0 (hs.only Q2) (fun w hs => Yl.loadB sca3 Q0 hs Q1 Q0) ?_
 refine WA.dag' [(⟨2, 5, [], (fun _ v cs => ∃ (x : Sl PServer) (F : List Nat), v = x.v ∧ cs = [ow x F] ∧ x.l.map PServer.lg = n.servers.l.map PServer.lg)⟩, []), (⟨5, 8, [], (fun _ v cs => ∃ (x : PCache) (F : List Nat), v = .agg (Ph.enc x).toArray ∧ cs = [ow x F] ∧ x.lg = n.cache.lg)⟩, [(0, false)]), (⟨6, 9, [], (fun _ v cs => ∃ b, v = .slice (some ⟨b, 0, none⟩) 0 0 ∧ cs = [box b 41 ([])])⟩, [])] [false, false, false] [(0, _), (1, _), (2, _), (3, _), (4, _), (6, _), (7, _), (10, _), (11, _), (13, _), (14, _)] ⟨by rfl, by rfl, by rfl, by rfl, by rfl, by rfl, by rfl, by rfl, by rfl, by rfl, by rfl, trivial⟩ Q0 Q6 Q6 Q6 Q6 Q6 Q6 Q6 Q6 (fun _ hs => hs.only Q2) hs (fuel := 3) ⟨⟨local_const, ?_⟩, ⟨local_const, ?_⟩, ⟨local_const, ?_⟩, trivial⟩ ?_
 ·
  clear hs
  intro w R hs
  simp only [List.cons_append, List.nil_append] at hs
  refine Gives.c' Q0 (Yc.func Q0 fn181) (c_impl_copyServers _ _ (Ph.old h_n.servers hs) (by exact hbs)) ?_
  rintro _ w1 ⟨_, rfl, hb, x, rfl, hx, hf⟩
  obtain ⟨F, hs1⟩ := hf.sat hs hb
  exact ⟨_, rfl, [ow x F], ⟨x, F, rfl, rfl, by exact hx⟩, hs1⟩
 ·
  clear hs
  rintro _ _ ⟨x3, F3, rfl, rfl, hx3⟩
  intro w R hs
  simp only [List.cons_append, List.nil_append] at hs
  refine Gives.c' Q0 (Yc.func Q0 fn182) (c_impl_copyCache _ _ ⟨(Ph.old h_n.cache.entries hs)⟩ (by exact hbc)) ?_
  rintro _ w1 ⟨_, rfl, hb, x, rfl, hx, hf⟩
  obtain ⟨F, hs1⟩ := hf.sat hs hb
  exact ⟨_, rfl, [ow x F], ⟨x, F, rfl, rfl, by first | exact hx | (simp only [hx3] at hx; exact hx)⟩, hs1⟩
 ·
  clear hs
  intro w R hs
  simp only [List.cons_append, List.nil_append] at hs
  exact Gives.rr' Q0 (Yr.buildSlice hs sll28 Q0 Q0 Q0 Q4 Q0) (fun _ _ ⟨b, hv, _, hs1⟩ => ⟨[box b 41 ([])], ⟨b, hv, rfl⟩, hs1⟩)
 clear hs
 rintro _ _ ⟨x3, F3, rfl, rfl, hx3⟩
 rintro _ _ ⟨x4, F4, rfl, rfl, hx4⟩
 rintro _ _ ⟨b5, rfl, rfl⟩
 intro w hs
 simp only [List.cons_append, List.nil_append, cond_true, cond_false] at hs
 replace hs := (Sat.boxow (l := ([] : List TSent)) (hs.sel (D := [box b5 _ _]) Q2) rfl rfl (by simp [maxLen]) (ownL_mk_flat (by simp)))
 refine WA.r (i := 9) Q6 Q0 Q0 (Yr.appendS (s := (⟨[], some ⟨b5, 0, none⟩, _⟩ : Sl TSent)) (F := [b5]) (r := n.log) hs elt28 Q2 Q0 Q0 (Ph.old h_n.log hs) (by simp; unfold maxLen; omega) (by simp; omega)) (by rintro _ w ⟨s6, F6, rfl, hl6, hs⟩; exact hs.only Q2) ?_
 clear hs; rintro _ w ⟨s6, F6, rfl, hl6, hs⟩
 refine WA.p (i := 12) Q0 Q6 Q6 Q6 Q0 (hs.only Q2) (fun w hs => Yl.build bt30 Q0 Q4) ?_
 refine WA.s (i := 13) Q6 Q0 (Yr.storeB hs Q0 Q0 Q0 Q5 Q3 Q0 (by exact szf30)) (by rintro _ w hs; exact hs.only Q2) ?_
 clear hs; rintro _ w hs
 refine WA.donen Q6 ?_
 refine WC.ret ?_
 refine fin1c rfl agg30 Q0 hs Q1 Q0 ?_
 refine Ret.mk hs ?_
 refine ⟨⟨x3, x4, s6, _⟩, rfl, ?_, ?_⟩
 · simp_all
 · exact (PNet.join _ (hs.only (D := [ow x3 F3, ow x4 F4, ow s6 F6]) Q2) (by first | exact Ph.old h_n.now hs | trivial | assumption | exact Nat.zero_le _)).fresh List.mem_cons_self

theorem c_impl_WaitNet (n : PNet) (ticks : Int) (w : World) (h_n : Ph.ok w n) (h_ticks : Ph.ok w ticks) (hbs : lsz TServer.size n.lg.servers ≤ 1048576) (hbc : n.lg.cache.size ≤ 1048576) (hbl : n.log.l.length ≤ 1048577) (hm_ : ∃ m, w.cell? ⟨0, 0, none⟩ = some (.int .i64 m)) : Calls Tryz.prog 16 [.agg #[Sl.v n.servers, Sl.v n.cache.entries, Sl.v n.log, I n.now], I ticks].toArray w (Ret w (fun v w' => ∃ x : PNet, v = .agg (Ph.enc x).toArray ∧ x.lg = waitNet n.lg ticks ∧ Fresh w x w')) := by
 refine enterN 29 Tryz.func16 rfl rfl rfl ?_
 have hs := Sat.start w
 refine WC.seq ?_
 refine WL.r Q0 (Yr.box hs Q0 Q0) ?_
 clear hs; rintro _ w ⟨b1, rfl, hb, hs⟩; clear hb
 refine WL.r Q0 (Yr.alloc hs zt30) ?_
 clear hs; rintro _ w ⟨b2, rfl, hb, hs⟩; clear hb
 refine WL.next ?_
 refine WC.seq ?_
 refine WL.p Q0 (Yl.loadAB agg30 Q0 hs Q1 Q0 Q0) ?_
 refine WL.call hs Q0 (Yc.func Q0 fn89) (c_impl_copyNet _ _ (Ph.old h_n hs) (by exact hbs) (by exact hbc) (by exact hbl)) ?_
 have hs0 := hs; clear hs; intro v w hb hR hs; clear hs
 obtain ⟨x3, rfl, hx3, hf3⟩ := hR
 obtain ⟨F3, hs⟩ := hf3.sat hs0 hb; clear hs0 hf3
 refine WL.r Q0 (Yr.alloc hs zt30) ?_
 clear hs; rintro _ w ⟨b4, rfl, hb, hs⟩; clear hb
 refine WL.s (Yr.storeB hs Q0 Q0 Q0 Q5 Q3 Q0 (by exact szf30)) ?_
 clear hs; rintro _ w hs
 refine WL.next ?_
 refine WC.seq ?_
 refine WL.p Q0 (Yl.fieldAddr fa30_3 Q0) ?_
 refine WL.p Q0 (Yl.loadB sca3 Q0 hs Q1 Q0) ?_
 refine Qm ?_
 refine WL.p Q0 (Yl.addw Q0 Q0) ?_
 refine WL.p Q0 (Yl.fieldAddr fa30_3 Q0) ?_
 refine WL.s (Yr.storeB hs Q0 Q0 Q0 Q5 Q3 Q0 (by exact szf3)) ?_
 clear hs; rintro _ w hs
 refine WL.next ?_
 refine WC.seq' ?_
 refine WC.seq ?_
 refine Qm ?_
 refine WL.callp hs Q0 (Yc.func Q0 fn90) (c_impl_InRange _ _ _ _) ?_
 clear hs; intro w hs
 refine WL.p Q0 (Yl.not Q0) ?_
 refine Qm ?_
 refine WL.split (d := 16) Q0 (fun h1 => ?_) (fun h1 => ?_)
 ·
  replace h1 := not_eq_true h1
  replace h1 := inR_false.1 h1
  refine WL.skip (d := 16) Q0 Q0 Q0 Q0 ?_
  refine WL.skip (d := 16) Q0 Q0 Q0 Q0 ?_
  refine WL.skip (d := 16) Q0 Q0 Q0 Q0 ?_
  refine WL.p Q0 (Yl.pickT Q0 Q0) ?_
  refine Qm ?_
  refine WL.skip (d := 21) Q0 Q0 Q0 Q0 ?_
  refine WL.skip (d := 21) Q0 Q0 Q0 Q0 ?_
  refine WL.skip (d := 21) Q0 Q0 Q0 Q0 ?_
  refine WL.p Q0 (Yl.pickT Q0 Q0) ?_
  refine WL.next ?_
  refine WC.condT Q0 ?_
  refine WC.seq ?_
  refine WL.p Q0 (Yl.loadAB agg30 Q0 hs Q1 Q0 Q0) ?_
  refine WL.call hs Q0 (Yc.func Q0 fn89) (c_impl_copyNet _ _ (Ph.old h_n hs) (by exact hbs) (by exact hbc) (by exact hbl)) ?_
  have hs0 := hs; clear hs; intro v w hb hR hs; clear hs
  obtain ⟨x5, rfl, hx5, hf5⟩ := hR
  obtain ⟨F5, hs⟩ := hf5.sat hs0 hb; clear hs0 hf5
  refine WL.s (Yr.storeB hs Q0 Q0 Q0 Q5 Q3 Q0 (by exact szf30)) ?_
  clear hs; rintro _ w hs
  refine WL.next ?_
  refine WC.ret ?_
  refine At.thenret ?_
  refine fin1c rfl agg30 Q0 hs Q1 Q0 ?_
  refine Ret.mk hs ?_
  have hb9 : (inR ticks 0 1000 && (netOk n.lg && netOk ⟨n.lg.servers, n.lg.cache, n.lg.log, IntKind.i64.wrap (n.lg.now + ticks)⟩)) = false := by
   clear hs
   try simp only [← inR_true] at *
   try simp only [← inR_false] at *
   have e5_ : PNet.lg (⟨x3.servers, x3.cache, x3.log, IntKind.i64.wrap (x3.now + ticks)⟩ : PNet) = ⟨n.lg.servers, n.lg.cache, n.lg.log, IntKind.i64.wrap (n.lg.now + ticks)⟩ := by rw [← hx3]; try rfl
   have e6_ : PNet.lg (⟨x3.servers, (⟨x3.cache.entries⟩ : PCache), x3.log, IntKind.i64.wrap (x3.now + ticks)⟩ : PNet) = ⟨n.lg.servers, n.lg.cache, n.lg.log, IntKind.i64.wrap (n.lg.now + ticks)⟩ := e5_
   try simp only [e6_] at *
   simp_all
  have hq9 : waitNet n.lg ticks = n.lg := by rw [waitNet_W false hb9]; rfl
  exact ⟨x5, rfl, hx5.trans hq9.symm, hs.fresh Q1⟩
 ·
  replace h1 := not_eq_false h1
  replace h1 := inR_true.1 h1
  refine WL.run (d := 16) Q0 Q0 ?_
  refine WL.p Q0 (Yl.loadAB agg30 Q0 hs Q1 Q0 Q0) ?_
  refine WL.run (d := 16) Q0 Q0 ?_
  refine WL.callp hs Q0 (Yc.func Q0 fn21) (c_impl_IsNet _ _ (Ph.old h_n hs) (by first | exact hbs | exact Nat.le_trans (Nat.le_of_eq (congrArg (fun z => lsz TServer.size z.servers) hx3)) hbs) (by first | exact hbc | exact Nat.le_trans (Nat.le_of_eq (congrArg (fun z => z.cache.size) hx3)) hbc) (by first | exact hbl | (have e9 := congrArg (fun z => z.log.length) hx3; exact Nat.le_trans (Nat.le_of_eq e9) hbl)) (by first | assumption | exact Sat.cellm hs (by assumption))) ?_
  clear hs; intro w hs
  refine WL.run (d := 16) Q0 Q0 ?_
  refine WL.p Q0 (Yl.not Q0) ?_
  refine WL.p Q0 (Yl.pickF Q0 Q0) ?_
  refine Qm ?_
  refine WL.split (d := 21) Q0 (fun h2 => ?_) (fun h2 => ?_)
  ·
   replace h2 := not_eq_true h2
   refine WL.skip (d := 21) Q0 Q0 Q0 Q0 ?_
   refine WL.skip (d := 21) Q0 Q0 Q0 Q0 ?_
   refine WL.skip (d := 21) Q0 Q0 Q0 Q0 ?_
   refine WL.p Q0 (Yl.pickT Q0 Q0) ?_
   refine WL.next ?_
   refine WC.condT Q0 ?_
   refine WC.seq ?_
   refine WL.p Q0 (Yl.loadAB agg30 Q0 hs Q1 Q0 Q0) ?_
   refine WL.call hs Q0 (Yc.func Q0 fn89) (c_impl_copyNet _ _ (Ph.old h_n hs) (by exact hbs) (by exact hbc) (by exact hbl)) ?_
   have hs0 := hs; clear hs; intro v w hb hR hs; clear hs
   obtain ⟨x6, rfl, hx6, hf6⟩ := hR
   obtain ⟨F6, hs⟩ := hf6.sat hs0 hb; clear hs0 hf6
   refine WL.s (Yr.storeB hs Q0 Q0 Q0 Q5 Q3 Q0 (by exact szf30)) ?_
   clear hs; rintro _ w hs
   refine WL.next ?_
   refine WC.ret ?_
   refine At.thenret ?_
   refine fin1c rfl agg30 Q0 hs Q1 Q0 ?_
   refine Ret.mk hs ?_
   have hb9 : (inR ticks 0 1000 && (netOk n.lg && netOk ⟨n.lg.servers, n.lg.cache, n.lg.log, IntKind.i64.wrap (n.lg.now + ticks)⟩)) = false := by
    clear hs
    try simp only [← inR_true] at *
    try simp only [← inR_false] at *
    have e5_ : PNet.lg (⟨x3.servers, x3.cache, x3.log, IntKind.i64.wrap (x3.now + ticks)⟩ : PNet) = ⟨n.lg.servers, n.lg.cache, n.lg.log, IntKind.i64.wrap (n.lg.now + ticks)⟩ := by rw [← hx3]; try rfl
    have e6_ : PNet.lg (⟨x3.servers, (⟨x3.cache.entries⟩ : PCache), x3.log, IntKind.i64.wrap (x3.now + ticks)⟩ : PNet) = ⟨n.lg.servers, n.lg.cache, n.lg.log, IntKind.i64.wrap (n.lg.now + ticks)⟩ := e5_
    try simp only [e6_] at *
    simp_all
   have hq9 : waitNet n.lg ticks = n.lg := by rw [waitNet_W false hb9]; rfl
   exact ⟨x6, rfl, hx6.trans hq9.symm, hs.fresh Q1⟩
  ·
   replace h2 := not_eq_false h2
   refine WL.run (d := 21) Q0 Q0 ?_
   refine WL.p Q0 (Yl.loadAB agg30 Q0 hs Q1 Q0 Q0) ?_
   refine WL.run (d := 21) Q0 Q0 ?_
   refine WL.callp hs Q0 (Yc.func Q0 fn21) (c_impl_IsNet (⟨x3.servers, (⟨x3.cache.entries⟩ : PCache), x3.log, (IntKind.i64.wrap (x3.now + ticks))⟩ : PNet) _ ⟨(hs.okow (x := x3) (F := F3) Q1).servers, ⟨(hs.okow (x := x3) (F := F3) Q1).cache.entries⟩, (hs.okow (x := x3) (F := F3) Q1).log, (wfI_wrap _)⟩ (by first | exact hbs | exact Nat.le_trans (Nat.le_of_eq (congrArg (fun z => lsz TServer.size z.servers) hx3)) hbs) (by first | exact hbc | exact Nat.le_trans (Nat.le_of_eq (congrArg (fun z => z.cache.size) hx3)) hbc) (by first | exact hbl | (have e9 := congrArg (fun z => z.log.length) hx3; exact Nat.le_trans (Nat.le_of_eq e9) hbl)) (by first | assumption | exact Sat.cellm hs (by assumption))) ?_
   clear hs; intro w hs
   refine WL.run (d := 21) Q0 Q0 ?_
   refine WL.p Q0 (Yl.not Q0) ?_
   refine WL.p Q0 (Yl.pickF Q0 Q0) ?_
   refine WL.next ?_
   refine WC.condS Q0 (fun h3 => ?_) (fun h3 => ?_)
   ·
    replace h3 := not_eq_true h3
    refine WC.seq ?_
    refine WL.p Q0 (Yl.loadAB agg30 Q0 hs Q1 Q0 Q0) ?_
    refine WL.call hs Q0 (Yc.func Q0 fn89) (c_impl_copyNet _ _ (Ph.old h_n hs) (by exact hbs) (by exact hbc) (by exact hbl)) ?_
    have hs0 := hs; clear hs; intro v w hb hR hs; clear hs
    obtain ⟨x7, rfl, hx7, hf7⟩ := hR
    obtain ⟨F7, hs⟩ := hf7.sat hs0 hb; clear hs0 hf7
    refine WL.s (Yr.storeB hs Q0 Q0 Q0 Q5 Q3 Q0 (by exact szf30)) ?_
    clear hs; rintro _ w hs
    refine WL.next ?_
    refine WC.ret ?_
    refine At.thenret ?_
    refine fin1c rfl agg30 Q0 hs Q1 Q0 ?_
    refine Ret.mk hs ?_
    have hb9 : (inR ticks 0 1000 && (netOk n.lg && netOk ⟨n.lg.servers, n.lg.cache, n.lg.log, IntKind.i64.wrap (n.lg.now + ticks)⟩)) = false := by
     clear hs
     try simp only [← inR_true] at *
     try simp only [← inR_false] at *
     have e5_ : PNet.lg (⟨x3.servers, x3.cache, x3.log, IntKind.i64.wrap (x3.now + ticks)⟩ : PNet) = ⟨n.lg.servers, n.lg.cache, n.lg.log, IntKind.i64.wrap (n.lg.now + ticks)⟩ := by rw [← hx3]; try rfl
     have e6_ : PNet.lg (⟨x3.servers, (⟨x3.cache.entries⟩ : PCache), x3.log, IntKind.i64.wrap (x3.now + ticks)⟩ : PNet) = ⟨n.lg.servers, n.lg.cache, n.lg.log, IntKind.i64.wrap (n.lg.now + ticks)⟩ := e5_
     try simp only [e6_] at *
     simp_all
    have hq9 : waitNet n.lg ticks = n.lg := by rw [waitNet_W false hb9]; rfl
    exact ⟨x7, rfl, hx7.trans hq9.symm, hs.fresh Q1⟩
   ·
    replace h3 := not_eq_false h3
    refine WC.skipn ?_
    refine WC.seq ?_
    refine WL.p Q0 (Yl.loadAB agg30 Q0 hs Q1 Q0 Q0) ?_
    refine WL.s (Yr.storeB hs Q0 Q0 Q0 Q5 Q3 Q0 (by exact szf30)) ?_
    clear hs; rintro _ w hs
    refine WL.next ?_
    refine WC.ret ?_
    refine fin1c rfl agg30 Q0 hs Q1 Q0 ?_
    obtain ⟨K8_0, K8_1, K8_2, hfl8, hs⟩ := PNet.split (hs.sel (D := [ow x3 F3]) Q2)
    try simp only [List.cons_append, List.nil_append] at hs
    refine Ret.mk hs ?_
    refine ⟨(⟨x3.servers, x3.cache, x3.log, (IntKind.i64.wrap (x3.now + ticks))⟩ : PNet), rfl, ?_, ?_⟩
    · have e1_ := congrArg TNet.servers hx3; have e2_ := congrArg TNet.cache hx3; have e3_ := congrArg TNet.log hx3; have e4_ := congrArg TNet.now hx3
      have e5_ : PNet.lg (⟨x3.servers, x3.cache, x3.log, IntKind.i64.wrap (x3.now + ticks)⟩ : PNet) = ⟨n.lg.servers, n.lg.cache, n.lg.log, IntKind.i64.wrap (n.lg.now + ticks)⟩ := by rw [← hx3]; try rfl
      have e6_ : PNet.lg (⟨x3.servers, (⟨x3.cache.entries⟩ : PCache), x3.log, IntKind.i64.wrap (x3.now + ticks)⟩ : PNet) = ⟨n.lg.servers, n.lg.cache, n.lg.log, IntKind.i64.wrap (n.lg.now + ticks)⟩ := e5_
      have hb9 : (inR ticks 0 1000 && (netOk n.lg && netOk ⟨n.lg.servers, n.lg.cache, n.lg.log, IntKind.i64.wrap (n.lg.now + ticks)⟩)) = true := by
       clear hs
       try simp only [← inR_true] at *
       try simp only [e6_] at *
       simp_all
      rw [waitNet_W true hb9, if_pos rfl]
      exact e5_
    · exact (PNet.join (⟨x3.servers, x3.cache, x3.log, (IntKind.i64.wrap (x3.now + ticks))⟩ : PNet) (hs.only (D := [ow x3.servers K8_0, ow x3.cache K8_1, ow x3.log K8_2]) Q2) (by first | exact (wfI_wrap _) | exact (show WfI ((IntKind.i64.wrap (x3.now + ticks))) from ⟨by omega, by omega⟩) | assumption | trivial)).fresh List.mem_cons_self

theorem c_impl_countGuesses (l : (Sl TSent)) (w : World) (h_l : Ph.ok w l)  : Calls Tryz.prog 91 [Sl.v l].toArray w (RetP w (I (guesses l.l : Int))) := by
 have hw := h_l.lt
 refine enterN 18 Tryz.func91 rfl rfl rfl ?_
 have hs := Sat.start w
 refine WC.seq ?_
 refine Qa ?_
 refine WL.next ?_
 refine WC.seq ?_
 refine Qa ?_
 refine WL.next ?_
 refine WC.seq' ?_
 refine WC.seq ?_
 refine Qm ?_
 refine WL.p Q0 (Yl.len_sl slu28 Q0) ?_
 refine Qm ?_
 refine WL.next ?_
 refine WC.block ?_
 refine WC.loopC (ι := Nat × Nat) (fun ⟨k, m⟩ => l.l.length - k) (fun ⟨k, m⟩ => [(8, I (k : Int)), (3, I (m : Int))]) (fun _ => []) (fun ⟨k, m⟩ => m ≤ k ∧ guesses l.l = m + guesses (l.l.drop k)) [(0, _), (2, _), (6, _), (7, _)] (0, 0) (hs) ⟨by rfl, by rfl, by rfl, by rfl, trivial⟩ ⟨by rfl, by rfl, trivial⟩ ?_ ?_
 ·
  exact ⟨Nat.le_refl _, by simp⟩
 clear hs; rintro ⟨k, m⟩ w ⟨hJ1, hJ2⟩ hs
 simp only [List.nil_append] at hs
 refine WC.seq ?_
 refine WL.p Q0 (Yl.lss Q0 Q0) ?_
 refine WL.next ?_
 refine WC.seq' ?_
 refine WC.condS Q0 (fun h1 => ?_) (fun h1 => ?_)
 ·
  replace h1 := of_decide_eq_true h1
  obtain ⟨d, hd⟩ := exists_get (l := l.l) (k := k) Q7
  rw [drop_cons hd] at hJ2
  refine WC.skipn ?_
  refine WC.seq' ?_
  refine WC.block ?_
  refine WC.seq ?_
  refine WL.p Q0 (Yl.indexAddr slt28 Q0 Q0 (Ph.old h_l hs) Q0 (hd)) ?_
  refine WL.p Q0 (Yl.loadA agg41 Q0 (Sl.Ok.at_ (Ph.old h_l hs) (by assumption)).2 Q0) ?_
  refine WL.r Q0 (Yr.alloc hs zt41) ?_
  clear hs; rintro _ w ⟨b1, rfl, hb, hs⟩; clear hb
  refine WL.s (Yr.storeB hs Q0 Q0 Q0 Q5 Q3 Q0 (by exact szf41)) ?_
  clear hs; rintro _ w hs
  refine WL.next ?_
  refine WC.seq ?_
  refine WL.p Q0 (Yl.fieldAddr fa41_2 Q0) ?_
  refine WL.p Q0 (Yl.loadB sca4 Q0 hs Q1 Q0) ?_
  refine WL.next ?_
  refine WC.condS Q0 (fun h2 => ?_) (fun h2 => ?_)
  ·
   refine WC.region ?_
   refine Qm ?_
   refine WL.p Q0 (Yl.add Q0 Q0 Q7) ?_
   refine Qa ?_
   refine WL.nil ?_
   refine At.blocknormal ?_
   refine At.then_ ?_
   refine WC.region ?_
   refine WL.p Q0 (Yl.add Q0 Q0 Q7) ?_
   refine Qm ?_
   refine WL.nil ?_
   refine At.roundC (k + 1, m + 1) (hs.only Q2) ⟨by rfl, by rfl, by rfl, by rfl, trivial⟩ ⟨by rfl, by rfl, trivial⟩ ?_ ?_
   ·
    show l.l.length - (k + 1) < l.l.length - k
    omega
   ·
    rw [guesses_yes (by assumption)] at hJ2
    exact ⟨by omega, by omega⟩
  ·
   refine WC.skip ?_
   refine At.blocknormal ?_
   refine At.then_ ?_
   refine WC.region ?_
   refine WL.p Q0 (Yl.add Q0 Q0 Q7) ?_
   refine Qm ?_
   refine WL.nil ?_
   refine At.roundC (k + 1, m) (hs.only Q2) ⟨by rfl, by rfl, by rfl, by rfl, trivial⟩ ⟨by rfl, by rfl, trivial⟩ ?_ ?_
   ·
    show l.l.length - (k + 1) < l.l.length - k
    omega
   ·
    rw [guesses_no (by assumption)] at hJ2
    exact ⟨by omega, by omega⟩
 ·
  replace h1 := of_decide_eq_false h1
  rw [drop_out (l := l.l) Q7] at hJ2
  refine WC.exit ?_
  refine At.thenexit ?_
  refine At.thenexit ?_
  refine At.blockexit ?_
  refine At.then_ ?_
  refine WC.seq ?_
  refine Qm ?_
  refine Qa ?_
  refine WL.next ?_
  refine WC.ret ?_
  refine fin1' rfl Q0 ?_
  refine RetP.mk hs ?_
  rw [hJ2]; simp [guesses]

theorem c_impl_CountGuesses (n : PNet) (w : World) (h_n : Ph.ok w n)  : Calls Tryz.prog 17 [.agg #[Sl.v n.servers, Sl.v n.cache.entries, Sl.v n.log, I n.now]].toArray w (RetP w (I (guesses n.log.l : Int))) := by
 refine enterN 6 Tryz.func17 rfl rfl rfl ?_
 have hs := Sat.start w
 refine WC.seq ?_
 refine WL.r Q0 (Yr.box hs Q0 Q0) ?_
 clear hs; rintro _ w ⟨b1, rfl, hb, hs⟩; clear hb
 refine Qa ?_
 refine WL.next ?_
 refine WC.seq ?_
 refine WL.p Q0 (Yl.fieldAddr fa30_2 Q0) ?_
 refine WL.p Q0 (Yl.loadB sca28 Q0 hs Q1 Q0) ?_
 refine WL.callp hs Q0 (Yc.func Q0 fn91) (c_impl_countGuesses _ _ (Ph.old h_n.log hs)) ?_
 clear hs; intro w hs
 refine Qa ?_
 refine WL.next ?_
 refine WC.ret ?_
 refine fin1' rfl Q0 ?_
 refine RetP.mk hs ?_
 rfl

theorem c_spec_CountGuesses (n : PNet) (w : World) (h_n : Ph.ok w n)  : Calls Tryz.prog 18 [.agg #[Sl.v n.servers, Sl.v n.cache.entries, Sl.v n.log, I n.now]].toArray w (RetP w (I (guesses n.log.l : Int))) := by
 have hw := h_n.log.lt
 refine enterN 21 Tryz.func18 rfl rfl rfl ?_
 have hs := Sat.start w
 refine WC.seq ?_
 refine WL.r Q0 (Yr.box hs Q0 Q0) ?_
 clear hs; rintro _ w ⟨b1, rfl, hb, hs⟩; clear hb
 refine Qa ?_
 refine WL.next ?_
 refine WC.seq ?_
 refine Qa ?_
 refine WL.next ?_
 refine WC.seq' ?_
 refine WC.seq ?_
 refine Qa ?_
 refine WL.next ?_
 refine WC.block ?_
 refine WC.loopC (ι := Nat × Nat) (fun ⟨k, m⟩ => n.log.l.length - k) (fun ⟨k, m⟩ => [(4, I (k : Int)), (3, I (m : Int))]) (fun _ => []) (fun ⟨k, m⟩ => m ≤ k ∧ guesses n.log.l = m + guesses (n.log.l.drop k)) [(0, _), (1, _), (2, _)] (0, 0) (hs) ⟨by rfl, by rfl, by rfl, trivial⟩ ⟨by rfl, by rfl, trivial⟩ ?_ ?_
 ·
  exact ⟨Nat.le_refl _, by simp⟩
 clear hs; rintro ⟨k, m⟩ w ⟨hJ1, hJ2⟩ hs
 simp only [List.nil_append] at hs
 refine WC.seq' ?_
 refine WC.seq ?_
 refine Qm ?_
 refine WL.p Q0 (Yl.fieldAddr fa30_2 Q0) ?_
 refine WL.p Q0 (Yl.loadB sca28 Q0 hs Q1 Q0) ?_
 refine WL.p Q0 (Yl.len_sl slu28 Q0) ?_
 refine WL.p Q0 (Yl.lss Q0 Q0) ?_
 refine WL.next ?_
 refine WC.condS Q0 (fun h1 => ?_) (fun h1 => ?_)
 ·
  replace h1 := of_decide_eq_true h1
  obtain ⟨d, hd⟩ := exists_get (l := n.log.l) (k := k) Q7
  rw [drop_cons hd] at hJ2
  refine WC.skipn ?_
  refine WC.seq' ?_
  refine WC.block ?_
  refine WC.seq ?_
  refine WL.p Q0 (Yl.fieldAddr fa30_2 Q0) ?_
  refine WL.p Q0 (Yl.loadB sca28 Q0 hs Q1 Q0) ?_
  refine Qm ?_
  refine WL.p Q0 (Yl.indexAddr slt28 Q0 Q0 (Ph.old h_n.log hs) Q0 (hd)) ?_
  refine WL.p Q0 (Yl.fieldAddr fa41_2 Q0) ?_
  refine WL.p Q0 (Yl.loadC sca4 Q0 (Sl.Ok.at_ (Ph.old h_n.log hs) (by assumption)).2 Q0) ?_
  refine WL.next ?_
  refine WC.condS Q0 (fun h2 => ?_) (fun h2 => ?_)
  ·
   refine WC.region ?_
   refine Qm ?_
   refine WL.p Q0 (Yl.add Q0 Q0 Q7) ?_
   refine Qa ?_
   refine WL.nil ?_
   refine At.blocknormal ?_
   refine At.then_ ?_
   refine WC.region ?_
   refine Qm ?_
   refine WL.p Q0 (Yl.add Q0 Q0 Q7) ?_
   refine Qa ?_
   refine WL.nil ?_
   refine At.roundC (k + 1, m + 1) (hs.only Q2) ⟨by rfl, by rfl, by rfl, trivial⟩ ⟨by rfl, by rfl, trivial⟩ ?_ ?_
   ·
    show n.log.l.length - (k + 1) < n.log.l.length - k
    omega
   ·
    rw [guesses_yes (by assumption)] at hJ2
    exact ⟨by omega, by omega⟩
  ·
   refine WC.skip ?_
   refine At.blocknormal ?_
   refine At.then_ ?_
   refine WC.region ?_
   refine Qm ?_
   refine WL.p Q0 (Yl.add Q0 Q0 Q7) ?_
   refine Qa ?_
   refine WL.nil ?_
   refine At.roundC (k + 1, m) (hs.only Q2) ⟨by rfl, by rfl, by rfl, trivial⟩ ⟨by rfl, by rfl, trivial⟩ ?_ ?_
   ·
    show n.log.l.length - (k + 1) < n.log.l.length - k
    omega
   ·
    rw [guesses_no (by assumption)] at hJ2
    exact ⟨by omega, by omega⟩
 ·
  replace h1 := of_decide_eq_false h1
  rw [drop_out (l := n.log.l) Q7] at hJ2
  refine WC.exit ?_
  refine At.thenexit ?_
  refine At.thenexit ?_
  refine At.blockexit ?_
  refine At.then_ ?_
  refine WC.seq ?_
  refine Qm ?_
  refine Qa ?_
  refine WL.next ?_
  refine WC.ret ?_
  refine fin1' rfl Q0 ?_
  refine RetP.mk hs ?_
  rw [hJ2]; simp [guesses]

theorem c_slices_Equal___impl_Entry_impl_Entry_ (s1 : (Sl TEntry)) (s2 : (Sl TEntry)) (w : World) (h_s1 : Ph.ok w s1) (h_s2 : Ph.ok w s2)  : Calls Tryz.prog 129 [Sl.v s1, Sl.v s2].toArray w (RetP w (Bo (decide (s1.l = s2.l)))) := by
 have hw := h_s1.lt
 refine enterN 26 Tryz.func129 rfl rfl rfl ?_
 have hs := Sat.start w
 refine WC.seq ?_
 refine Qa ?_
 refine WL.next ?_
 refine WC.seq' ?_
 refine WC.seq ?_
 refine Qm ?_
 refine WL.p Q0 (Yl.len_sl slu25 Q0) ?_
 refine Qm ?_
 refine WL.p Q0 (Yl.len_sl slu25 Q0) ?_
 refine WL.p Q0 (Yl.nei Q0 Q0) ?_
 refine WL.next ?_
 refine WC.condS Q0 (fun h1 => ?_) (fun h1 => ?_)
 ·
  replace h1 := not_eq_true h1
  replace h1 := of_decide_eq_false h1
  refine WC.seq ?_
  refine Qa ?_
  refine WL.next ?_
  refine WC.ret ?_
  refine At.thenret ?_
  refine fin1' rfl Q0 ?_
  refine RetP.mk hs ?_
  have hne : ¬ s1.l = s2.l := by
   intro h
   have h2 := congrArg List.length h
   try simp at h2
   omega
  simp only [hne, decide_false]
 ·
  replace h1 := not_eq_false h1
  replace h1 := of_decide_eq_true h1
  refine WC.skipn ?_
  refine WC.seq' ?_
  refine WC.seq ?_
  refine Qm ?_
  refine WL.p Q0 (Yl.len_sl slu25 Q0) ?_
  refine Qm ?_
  refine WL.next ?_
  refine WC.block ?_
  refine WC.loopC (ι := Nat) (fun k => s1.l.length - k) (fun k => [(13, I (k : Int))]) (fun _ => []) (fun k => decide (s1.l = s2.l) = decide (s1.l.drop k = s2.l.drop k)) [(0, _), (1, _), (10, _), (12, _)] 0 (hs) ⟨by rfl, by rfl, by rfl, by rfl, trivial⟩ ⟨by rfl, trivial⟩ ?_ ?_
  ·
   simp
  clear hs; rintro k w hJ hs
  simp only [List.nil_append] at hs
  refine WC.seq ?_
  refine WL.p Q0 (Yl.lss Q0 Q0) ?_
  refine WL.next ?_
  refine WC.seq' ?_
  refine WC.condS Q0 (fun h2 => ?_) (fun h2 => ?_)
  ·
   replace h2 := of_decide_eq_true h2
   obtain ⟨d, hd⟩ := exists_get (l := s1.l) (k := k) Q7
   obtain ⟨d2, hd2⟩ := exists_get (l := s2.l) (k := k) Q7
   rw [drop_cons hd, drop_cons hd2] at hJ
   refine WC.skipn ?_
   refine WC.seq' ?_
   refine WC.block ?_
   refine WC.seq ?_
   refine Qm ?_
   refine Qa ?_
   refine WL.next ?_
   refine WC.quietn mixed Q6 hs ?_
   refine WQ.p Q0 (fun w hs => Yl.move Q0) ?_
   refine WQ.p Q0 (fun w hs => Yl.move Q0) ?_
   refine WQ.p Q0 (fun w hs => Yl.indexAddr slt25 Q0 Q0 (Ph.old h_s1 hs) Q0 (hd)) ?_
   refine WQ.p Q0 (fun w hs => Yl.loadA agg173 Q0 (Sl.Ok.at_ (Ph.old h_s1 hs) (by assumption)).2 Q0) ?_
   refine WQ.p Q0 (fun w hs => Yl.move Q0) ?_
   refine WQ.p Q0 (fun w hs => Yl.move Q0) ?_
   refine WQ.p Q0 (fun w hs => Yl.indexAddr slt25 Q0 Q0 (Ph.old h_s2 hs) Q0 (hd2)) ?_
   refine WQ.p Q0 (fun w hs => Yl.loadA agg173 Q0 (Sl.Ok.at_ (Ph.old h_s2 hs) (by assumption)).2 Q0) ?_
   refine WQ.p Q0 (fun w hs => Yl.net eqt173 Q0 Q0) ?_
   refine WQ.next ?_
   clear hs; intro w hs
   refine WC.condS Q0 (fun h3 => ?_) (fun h3 => ?_)
   ·
    replace h3 := not_eq_true h3
    replace h3 := of_decide_eq_false h3
    refine WC.seq ?_
    refine Qa ?_
    refine WL.next ?_
    refine WC.ret ?_
    refine At.blockret ?_
    refine At.thenret ?_
    refine At.thenret ?_
    refine At.blockret ?_
    refine At.thenret ?_
    refine fin1' rfl Q0 ?_
    refine RetP.mk hs ?_
    rw [hJ]; simp_all
   ·
    replace h3 := not_eq_false h3
    replace h3 := of_decide_eq_true h3
    refine WC.skip ?_
    refine At.blocknormal ?_
    refine At.then_ ?_
    refine WC.region ?_
    refine WL.p Q0 (Yl.add Q0 Q0 Q7) ?_
    refine Qm ?_
    refine WL.nil ?_
    refine At.roundC (k + 1) (hs.only Q2) ⟨by rfl, by rfl, by rfl, by rfl, trivial⟩ ⟨by rfl, trivial⟩ ?_ ?_
    ·
     omega
    ·
     rw [hJ]; simp_all
  ·
   replace h2 := of_decide_eq_false h2
   rw [drop_out (l := s1.l) Q7, drop_out (l := s2.l) Q7] at hJ
   refine WC.exit ?_
   refine At.thenexit ?_
   refine At.thenexit ?_
   refine At.blockexit ?_
   refine At.then_ ?_
   refine WC.seq ?_
   refine Qa ?_
   refine WL.next ?_
   refine WC.ret ?_
   refine fin1' rfl Q0 ?_
   refine RetP.mk hs ?_
   rw [hJ]; simp_all

theorem c_impl_EqualCaches (a : PCache) (b : PCache) (w : World) (h_a : Ph.ok w a) (h_b : Ph.ok w b)  : Calls Tryz.prog 38 [.agg #[Sl.v a.entries], .agg #[Sl.v b.entries]].toArray w (RetP w (Bo (decide (a.lg = b.lg)))) := by
 refine enterN 10 Tryz.func38 rfl rfl rfl ?_
 have hs := Sat.start w
 refine WC.seq ?_
 refine WL.r Q0 (Yr.box hs Q0 Q0) ?_
 clear hs; rintro _ w ⟨b1, rfl, hb, hs⟩; clear hb
 refine WL.r Q0 (Yr.box hs Q0 Q0) ?_
 clear hs; rintro _ w ⟨b2, rfl, hb, hs⟩; clear hb
 refine Qa ?_
 refine WL.next ?_
 refine WC.seq ?_
 refine WL.p Q0 (Yl.fieldAddr fa27_0 Q0) ?_
 refine WL.p Q0 (Yl.loadB sca25 Q0 hs Q1 Q0) ?_
 refine WL.p Q0 (Yl.fieldAddr fa27_0 Q0) ?_
 refine WL.p Q0 (Yl.loadB sca25 Q0 hs Q1 Q0) ?_
 refine WL.callp hs Q0 (Yc.func Q0 fn129) (c_slices_Equal___impl_Entry_impl_Entry_ _ _ _ (Ph.old h_a.entries hs) (Ph.old h_b.entries hs)) ?_
 clear hs; intro w hs
 refine Qa ?_
 refine WL.next ?_
 refine WC.ret ?_
 refine fin1' rfl Q0 ?_
 refine RetP.mk hs ?_
 simp_all [TCache.ext_iff]

theorem c_slices_EqualFunc___impl_Server___impl_Server_impl_Server_impl_Server_ (s1 : (Sl PServer)) (s2 : (Sl PServer)) (eq : FuncId) (us_eq : List Value) (p_eq : PServer → PServer → Bool) (w : World) (h_s1 : Ph.ok w s1) (h_s2 : Ph.ok w s2)  (hfn_eq : FN Tryz.prog eq) (hf_eq : ∀ x ∈ s1.l, ∀ y ∈ s2.l, ∀ w', Below w.heap.size w w' → Calls Tryz.prog eq (([.agg (Ph.enc x).toArray, .agg (Ph.enc y).toArray] : List Value) ++ us_eq).toArray w' (RetP w' (Bo (p_eq x y)))) : Calls Tryz.prog 183 [Sl.v s1, Sl.v s2, .func (.func eq) #[] us_eq.toArray].toArray w (RetP w (Bo (eqWith p_eq s1.l s2.l))) := by
 have hw := h_s1.lt
 refine enterN 32 Tryz.func183 rfl rfl rfl ?_
 have hs := Sat.start w
 refine WC.seq ?_
 refine Qa ?_
 refine WL.next ?_
 refine WC.seq' ?_
 refine WC.seq ?_
 refine Qm ?_
 refine WL.p Q0 (Yl.len_sl slu24 Q0) ?_
 refine Qm ?_
 refine WL.p Q0 (Yl.len_sl slu24 Q0) ?_
 refine WL.p Q0 (Yl.nei Q0 Q0) ?_
 refine WL.next ?_
 refine WC.condS Q0 (fun h1 => ?_) (fun h1 => ?_)
 ·
  replace h1 := not_eq_true h1
  replace h1 := of_decide_eq_false h1
  refine WC.seq ?_
  refine Qa ?_
  refine WL.next ?_
  refine WC.ret ?_
  refine At.thenret ?_
  refine fin1' rfl Q0 ?_
  refine RetP.mk hs ?_
  rw [eqWith_len Q7]
 ·
  replace h1 := not_eq_false h1
  replace h1 := of_decide_eq_true h1
  refine WC.skipn ?_
  refine WC.seq' ?_
  refine WC.seq ?_
  refine Qm ?_
  refine WL.p Q0 (Yl.len_sl slu24 Q0) ?_
  refine Qm ?_
  refine WL.next ?_
  refine WC.block ?_
  refine WC.loopC (ι := Nat) (fun k => s1.l.length - k) (fun k => [(17, I (k : Int))]) (fun _ => []) (fun k => eqWith p_eq s1.l s2.l = eqWith p_eq (s1.l.drop k) (s2.l.drop k)) [(0, _), (1, _), (2, _), (14, _), (15, _), (16, _)] 0 (hs) ⟨by rfl, by rfl, by rfl, by rfl, by rfl, by rfl, trivial⟩ ⟨by rfl, trivial⟩ ?_ ?_
  ·
   simp
  clear hs; rintro k w hJ hs
  simp only [List.nil_append] at hs
  refine WC.seq ?_
  refine WL.p Q0 (Yl.lss Q0 Q0) ?_
  refine WL.next ?_
  refine WC.seq' ?_
  refine WC.condS Q0 (fun h2 => ?_) (fun h2 => ?_)
  ·
   replace h2 := of_decide_eq_true h2
   obtain ⟨d, hd⟩ := exists_get (l := s1.l) (k := k) Q7
   obtain ⟨d2, hd2⟩ := exists_get (l := s2.l) (k := k) Q7
   rw [drop_cons hd, drop_cons hd2] at hJ
   refine WC.skipn ?_
   refine WC.seq' ?_
   refine WC.block ?_
   refine WC.seq ?_
   refine Qm ?_
   refine WL.p Q0 (Yl.indexAddr slt24 Q0 Q0 (Ph.old h_s1 hs) Q0 (hd)) ?_
   refine WL.p Q0 (Yl.loadA agg216 Q0 (Sl.Ok.at_ (Ph.old h_s1 hs) (by assumption)).2 Q0) ?_
   refine WL.r Q0 (Yr.alloc hs zt216) ?_
   clear hs; rintro _ w ⟨b1, rfl, hb, hs⟩; clear hb
   refine Qa ?_
   refine WL.s (Yr.storeB hs Q0 Q0 Q0 Q5 Q3 Q0 (by exact szf216)) ?_
   clear hs; rintro _ w hs
   refine WL.next ?_
   refine WC.seq ?_
   refine Qm ?_
   refine Qm ?_
   refine WL.p Q0 (Yl.indexAddr slt24 Q0 Q0 (Ph.old h_s2 hs) Q0 (hd2)) ?_
   refine WL.p Q0 (Yl.loadA agg216 Q0 (Sl.Ok.at_ (Ph.old h_s2 hs) (by assumption)).2 Q0) ?_
   refine WL.r Q0 (Yr.alloc hs zt216) ?_
   clear hs; rintro _ w ⟨b2, rfl, hb, hs⟩; clear hb
   refine WL.s (Yr.storeB hs Q0 Q0 Q0 Q5 Q3 Q0 (by exact szf216)) ?_
   clear hs; rintro _ w hs
   refine WL.next ?_
   refine WC.seq ?_
   refine Qm ?_
   refine WL.p Q0 (Yl.loadAB agg216 Q0 hs Q1 Q0 Q0) ?_
   refine WL.p Q0 (Yl.loadAB agg216 Q0 hs Q1 Q0 Q0) ?_
   refine WL.callp hs Q0 (Yc.value Q0 Q0 hfn_eq Q0) (hf_eq _ (List.mem_of_getElem? (by assumption)) _ (List.mem_of_getElem? (by assumption)) _ hs.below) ?_
   clear hs; intro w hs
   refine WL.p Q0 (Yl.not Q0) ?_
   refine WL.next ?_
   refine WC.condS Q0 (fun h3 => ?_) (fun h3 => ?_)
   ·
    replace h3 := not_eq_true h3
    refine WC.seq ?_
    refine Qa ?_
    refine WL.next ?_
    refine WC.ret ?_
    refine At.blockret ?_
    refine At.thenret ?_
    refine At.thenret ?_
    refine At.blockret ?_
    refine At.thenret ?_
    refine fin1' rfl Q0 ?_
    refine RetP.mk hs ?_
    rw [hJ]; simp_all [eqWith]
   ·
    replace h3 := not_eq_false h3
    refine WC.skip ?_
    refine At.blocknormal ?_
    refine At.then_ ?_
    refine WC.region ?_
    refine WL.p Q0 (Yl.add Q0 Q0 Q7) ?_
    refine Qm ?_
    refine WL.nil ?_
    refine At.roundC (k + 1) (hs.only Q2) ⟨by rfl, by rfl, by rfl, by rfl, by rfl, by rfl, trivial⟩ ⟨by rfl, trivial⟩ ?_ ?_
    ·
     omega
    ·
     rw [hJ]; simp_all [eqWith]
  ·
   replace h2 := of_decide_eq_false h2
   rw [drop_out (l := s1.l) Q7, drop_out (l := s2.l) Q7] at hJ
   refine WC.exit ?_
   refine At.thenexit ?_
   refine At.thenexit ?_
   refine At.blockexit ?_
   refine At.then_ ?_
   refine WC.seq ?_
   refine Qa ?_
   refine WL.next ?_
   refine WC.ret ?_
   refine fin1' rfl Q0 ?_
   refine RetP.mk hs ?_
   rw [hJ]; simp_all [eqWith]

theorem c_slices_Equal___impl_File_impl_File_ (s1 : (Sl TFile)) (s2 : (Sl TFile)) (w : World) (h_s1 : Ph.ok w s1) (h_s2 : Ph.ok w s2)  : Calls Tryz.prog 185 [Sl.v s1, Sl.v s2].toArray w (RetP w (Bo (decide (s1.l = s2.l)))) := by
 have hw := h_s1.lt
 refine enterN 26 Tryz.func185 rfl rfl rfl ?_
 have hs := Sat.start w
 refine WC.seq ?_
 refine Qa ?_
 refine WL.next ?_
 refine WC.seq' ?_
 refine WC.seq ?_
 refine Qm ?_
 refine WL.p Q0 (Yl.len_sl slu214 Q0) ?_
 refine Qm ?_
 refine WL.p Q0 (Yl.len_sl slu214 Q0) ?_
 refine WL.p Q0 (Yl.nei Q0 Q0) ?_
 refine WL.next ?_
 refine WC.condS Q0 (fun h1 => ?_) (fun h1 => ?_)
 ·
  replace h1 := not_eq_true h1
  replace h1 := of_decide_eq_false h1
  refine WC.seq ?_
  refine Qa ?_
  refine WL.next ?_
  refine WC.ret ?_
  refine At.thenret ?_
  refine fin1' rfl Q0 ?_
  refine RetP.mk hs ?_
  have hne : ¬ s1.l = s2.l := by
   intro h
   have h2 := congrArg List.length h
   try simp at h2
   omega
  simp only [hne, decide_false]
 ·
  replace h1 := not_eq_false h1
  replace h1 := of_decide_eq_true h1
  refine WC.skipn ?_
  refine WC.seq' ?_
  refine WC.seq ?_
  refine Qm ?_
  refine WL.p Q0 (Yl.len_sl slu214 Q0) ?_
  refine Qm ?_
  refine WL.next ?_
  refine WC.block ?_
  refine WC.loopC (ι := Nat) (fun k => s1.l.length - k) (fun k => [(13, I (k : Int))]) (fun _ => []) (fun k => decide (s1.l = s2.l) = decide (s1.l.drop k = s2.l.drop k)) [(0, _), (1, _), (10, _), (12, _)] 0 (hs) ⟨by rfl, by rfl, by rfl, by rfl, trivial⟩ ⟨by rfl, trivial⟩ ?_ ?_
  ·
   simp
  clear hs; rintro k w hJ hs
  simp only [List.nil_append] at hs
  refine WC.seq ?_
  refine WL.p Q0 (Yl.lss Q0 Q0) ?_
  refine WL.next ?_
  refine WC.seq' ?_
  refine WC.condS Q0 (fun h2 => ?_) (fun h2 => ?_)
  ·
   replace h2 := of_decide_eq_true h2
   obtain ⟨d, hd⟩ := exists_get (l := s1.l) (k := k) Q7
   obtain ⟨d2, hd2⟩ := exists_get (l := s2.l) (k := k) Q7
   rw [drop_cons hd, drop_cons hd2] at hJ
   refine WC.skipn ?_
   refine WC.seq' ?_
   refine WC.block ?_
   refine WC.seq ?_
   refine Qm ?_
   refine Qa ?_
   refine WL.next ?_
   refine WC.quietn mixed Q6 hs ?_
   refine WQ.p Q0 (fun w hs => Yl.move Q0) ?_
   refine WQ.p Q0 (fun w hs => Yl.move Q0) ?_
   refine WQ.p Q0 (fun w hs => Yl.indexAddr slt214 Q0 Q0 (Ph.old h_s1 hs) Q0 (hd)) ?_
   refine WQ.p Q0 (fun w hs => Yl.loadA agg219 Q0 (Sl.Ok.at_ (Ph.old h_s1 hs) (by assumption)).2 Q0) ?_
   refine WQ.p Q0 (fun w hs => Yl.move Q0) ?_
   refine WQ.p Q0 (fun w hs => Yl.move Q0) ?_
   refine WQ.p Q0 (fun w hs => Yl.indexAddr slt214 Q0 Q0 (Ph.old h_s2 hs) Q0 (hd2)) ?_
   refine WQ.p Q0 (fun w hs => Yl.loadA agg219 Q0 (Sl.Ok.at_ (Ph.old h_s2 hs) (by assumption)).2 Q0) ?_
   refine WQ.p Q0 (fun w hs => Yl.net eqt219 Q0 Q0) ?_
   refine WQ.next ?_
   clear hs; intro w hs
   refine WC.condS Q0 (fun h3 => ?_) (fun h3 => ?_)
   ·
    replace h3 := not_eq_true h3
    replace h3 := of_decide_eq_false h3
    refine WC.seq ?_
    refine Qa ?_
    refine WL.next ?_
    refine WC.ret ?_
    refine At.blockret ?_
    refine At.thenret ?_
    refine At.thenret ?_
    refine At.blockret ?_
    refine At.thenret ?_
    refine fin1' rfl Q0 ?_
    refine RetP.mk hs ?_
    rw [hJ]; simp_all
   ·
    replace h3 := not_eq_false h3
    replace h3 := of_decide_eq_true h3
    refine WC.skip ?_
    refine At.blocknormal ?_
    refine At.then_ ?_
    refine WC.region ?_
    refine WL.p Q0 (Yl.add Q0 Q0 Q7) ?_
    refine Qm ?_
    refine WL.nil ?_
    refine At.roundC (k + 1) (hs.only Q2) ⟨by rfl, by rfl, by rfl, by rfl, trivial⟩ ⟨by rfl, trivial⟩ ?_ ?_
    ·
     omega
    ·
     rw [hJ]; simp_all
  ·
   replace h2 := of_decide_eq_false h2
   rw [drop_out (l := s1.l) Q7, drop_out (l := s2.l) Q7] at hJ
   refine WC.exit ?_
   refine At.thenexit ?_
   refine At.thenexit ?_
   refine At.blockexit ?_
   refine At.then_ ?_
   refine WC.seq ?_
   refine Qa ?_
   refine WL.next ?_
   refine WC.ret ?_
   refine fin1' rfl Q0 ?_
   refine RetP.mk hs ?_
   rw [hJ]; simp_all

theorem c_impl_EqualServers_1 (x : PServer) (y : PServer) (w : World) (h_x : Ph.ok w x) (h_y : Ph.ok w y)  : Calls Tryz.prog 184 [.agg #[S x.host, Sl.v x.files], .agg #[S y.host, Sl.v y.files]].toArray w (RetP w (Bo (decide (x.lg = y.lg)))) := by
 refine enterN 17 Tryz.func184 rfl rfl rfl ?_
 have hs := Sat.start w
 refine WC.seq ?_
 refine WL.r Q0 (Yr.box hs Q0 Q0) ?_
 clear hs; rintro _ w ⟨b1, rfl, hb, hs⟩; clear hb
 refine WL.r Q0 (Yr.box hs Q0 Q0) ?_
 clear hs; rintro _ w ⟨b2, rfl, hb, hs⟩; clear hb
 refine Qa ?_
 refine WL.next ?_
 refine WC.seq ?_
 refine WL.p Q0 (Yl.fieldAddr fa216_0 Q0) ?_
 refine WL.p Q0 (Yl.loadB sca9 Q0 hs Q1 Q0) ?_
 refine WL.p Q0 (Yl.fieldAddr fa216_0 Q0) ?_
 refine WL.p Q0 (Yl.loadB sca9 Q0 hs Q1 Q0) ?_
 refine WL.p Q0 (Yl.eqs Q0 Q0) ?_
 refine Qm ?_
 refine WL.split (d := 10) Q0 (fun h1 => ?_) (fun h1 => ?_)
 ·
  replace h1 := of_decide_eq_true h1
  refine WL.run (d := 10) Q0 Q0 ?_
  refine WL.p Q0 (Yl.fieldAddr fa216_1 Q0) ?_
  refine WL.run (d := 10) Q0 Q0 ?_
  refine WL.p Q0 (Yl.loadB sca214 Q0 hs Q1 Q0) ?_
  refine WL.run (d := 10) Q0 Q0 ?_
  refine WL.p Q0 (Yl.fieldAddr fa216_1 Q0) ?_
  refine WL.run (d := 10) Q0 Q0 ?_
  refine WL.p Q0 (Yl.loadB sca214 Q0 hs Q1 Q0) ?_
  refine WL.run (d := 10) Q0 Q0 ?_
  refine WL.callp hs Q0 (Yc.func Q0 fn185) (c_slices_Equal___impl_File_impl_File_ _ _ _ (Ph.old h_x.files hs) (Ph.old h_y.files hs)) ?_
  clear hs; intro w hs
  refine WL.p Q0 (Yl.pickT Q0 Q0) ?_
  refine Qa ?_
  refine WL.next ?_
  refine WC.ret ?_
  refine fin1' rfl Q0 ?_
  refine RetP.mk hs ?_
  simp_all [TServer.ext_iff]
 ·
  replace h1 := of_decide_eq_false h1
  refine WL.skip (d := 10) Q0 Q0 Q0 Q0 ?_
  refine WL.skip (d := 10) Q0 Q0 Q0 Q0 ?_
  refine WL.skip (d := 10) Q0 Q0 Q0 Q0 ?_
  refine WL.skip (d := 10) Q0 Q0 Q0 Q0 ?_
  refine WL.skip (d := 10) Q0 Q0 Q0 Q0 ?_
  refine WL.p Q0 (Yl.pickF Q0 Q0) ?_
  refine Qa ?_
  refine WL.next ?_
  refine WC.ret ?_
  refine fin1' rfl Q0 ?_
  refine RetP.mk hs ?_
  simp_all [TServer.ext_iff]

theorem c_impl_EqualServers (a : (Sl PServer)) (b : (Sl PServer)) (w : World) (h_a : Ph.ok w a) (h_b : Ph.ok w b)  : Calls Tryz.prog 92 [Sl.v a, Sl.v b].toArray w (RetP w (Bo (decide (a.l.map PServer.lg = b.l.map PServer.lg)))) := by
 refine enterN 8 Tryz.func92 rfl rfl rfl ?_
 have hs := Sat.start w
 refine WC.seq ?_
 refine Qa ?_
 refine WL.next ?_
 refine WC.seq ?_
 refine Qm ?_
 refine Qm ?_
 refine WL.callp hs Q0 (Yc.func Q0 fn183) (c_slices_EqualFunc___impl_Server___impl_Server_impl_Server_impl_Server_ _ _ 184 _ (fun x y => decide (x.lg = y.lg)) _ (Ph.old h_a hs) (Ph.old h_b hs) fn184 (fun x hx y hy w1 hb1 => c_impl_EqualServers_1 x y w1 (Ph.ext hb1 ((Ph.old h_a hs).elems x hx)) (Ph.ext hb1 ((Ph.old h_b hs).elems y hy)))) ?_
 clear hs; intro w hs
 refine Qa ?_
 refine WL.next ?_
 refine WC.ret ?_
 refine fin1' rfl Q0 ?_
 refine RetP.mk hs ?_
 rw [eqWith_map]

theorem c_slices_Equal___impl_Sent_impl_Sent_ (s1 : (Sl TSent)) (s2 : (Sl TSent)) (w : World) (h_s1 : Ph.ok w s1) (h_s2 : Ph.ok w s2)  : Calls Tryz.prog 93 [Sl.v s1, Sl.v s2].toArray w (RetP w (Bo (decide (s1.l = s2.l)))) := by
 have hw := h_s1.lt
 refine enterN 26 Tryz.func93 rfl rfl rfl ?_
 have hs := Sat.start w
 refine WC.seq ?_
 refine Qa ?_
 refine WL.next ?_
 refine WC.seq' ?_
 refine WC.seq ?_
 refine Qm ?_
 refine WL.p Q0 (Yl.len_sl slu28 Q0) ?_
 refine Qm ?_
 refine WL.p Q0 (Yl.len_sl slu28 Q0) ?_
 refine WL.p Q0 (Yl.nei Q0 Q0) ?_
 refine WL.next ?_
 refine WC.condS Q0 (fun h1 => ?_) (fun h1 => ?_)
 ·
  replace h1 := not_eq_true h1
  replace h1 := of_decide_eq_false h1
  refine WC.seq ?_
  refine Qa ?_
  refine WL.next ?_
  refine WC.ret ?_
  refine At.thenret ?_
  refine fin1' rfl Q0 ?_
  refine RetP.mk hs ?_
  have hne : ¬ s1.l = s2.l := by
   intro h
   have h2 := congrArg List.length h
   try simp at h2
   omega
  simp only [hne, decide_false]
 ·
  replace h1 := not_eq_false h1
  replace h1 := of_decide_eq_true h1
  refine WC.skipn ?_
  refine WC.seq' ?_
  refine WC.seq ?_
  refine Qm ?_
  refine WL.p Q0 (Yl.len_sl slu28 Q0) ?_
  refine Qm ?_
  refine WL.next ?_
  refine WC.block ?_
  refine WC.loopC (ι := Nat) (fun k => s1.l.length - k) (fun k => [(13, I (k : Int))]) (fun _ => []) (fun k => decide (s1.l = s2.l) = decide (s1.l.drop k = s2.l.drop k)) [(0, _), (1, _), (10, _), (12, _)] 0 (hs) ⟨by rfl, by rfl, by rfl, by rfl, trivial⟩ ⟨by rfl, trivial⟩ ?_ ?_
  ·
   simp
  clear hs; rintro k w hJ hs
  simp only [List.nil_append] at hs
  refine WC.seq ?_
  refine WL.p Q0 (Yl.lss Q0 Q0) ?_
  refine WL.next ?_
  refine WC.seq' ?_
  refine WC.condS Q0 (fun h2 => ?_) (fun h2 => ?_)
  ·
   replace h2 := of_decide_eq_true h2
   obtain ⟨d, hd⟩ := exists_get (l := s1.l) (k := k) Q7
   obtain ⟨d2, hd2⟩ := exists_get (l := s2.l) (k := k) Q7
   rw [drop_cons hd, drop_cons hd2] at hJ
   refine WC.skipn ?_
   refine WC.seq' ?_
   refine WC.block ?_
   refine WC.seq ?_
   refine Qm ?_
   refine Qa ?_
   refine WL.next ?_
   refine WC.quietn mixed Q6 hs ?_
   refine WQ.p Q0 (fun w hs => Yl.move Q0) ?_
   refine WQ.p Q0 (fun w hs => Yl.move Q0) ?_
   refine WQ.p Q0 (fun w hs => Yl.indexAddr slt28 Q0 Q0 (Ph.old h_s1 hs) Q0 (hd)) ?_
   refine WQ.p Q0 (fun w hs => Yl.loadA agg41 Q0 (Sl.Ok.at_ (Ph.old h_s1 hs) (by assumption)).2 Q0) ?_
   refine WQ.p Q0 (fun w hs => Yl.move Q0) ?_
   refine WQ.p Q0 (fun w hs => Yl.move Q0) ?_
   refine WQ.p Q0 (fun w hs => Yl.indexAddr slt28 Q0 Q0 (Ph.old h_s2 hs) Q0 (hd2)) ?_
   refine WQ.p Q0 (fun w hs => Yl.loadA agg41 Q0 (Sl.Ok.at_ (Ph.old h_s2 hs) (by assumption)).2 Q0) ?_
   refine WQ.p Q0 (fun w hs => Yl.net eqt41 Q0 Q0) ?_
   refine WQ.next ?_
   clear hs; intro w hs
   refine WC.condS Q0 (fun h3 => ?_) (fun h3 => ?_)
   ·
    replace h3 := not_eq_true h3
    replace h3 := of_decide_eq_false h3
    refine WC.seq ?_
    refine Qa ?_
    refine WL.next ?_
    refine WC.ret ?_
    refine At.blockret ?_
    refine At.thenret ?_
    refine At.thenret ?_
    refine At.blockret ?_
    refine At.thenret ?_
    refine fin1' rfl Q0 ?_
    refine RetP.mk hs ?_
    rw [hJ]; simp_all
   ·
    replace h3 := not_eq_false h3
    replace h3 := of_decide_eq_true h3
    refine WC.skip ?_
    refine At.blocknormal ?_
    refine At.then_ ?_
    refine WC.region ?_
    refine WL.p Q0 (Yl.add Q0 Q0 Q7) ?_
    refine Qm ?_
    refine WL.nil ?_
    refine At.roundC (k + 1) (hs.only Q2) ⟨by rfl, by rfl, by rfl, by rfl, trivial⟩ ⟨by rfl, trivial⟩ ?_ ?_
    ·
     omega
    ·
     rw [hJ]; simp_all
  ·
   replace h2 := of_decide_eq_false h2
   rw [drop_out (l := s1.l) Q7, drop_out (l := s2.l) Q7] at hJ
   refine WC.exit ?_
   refine At.thenexit ?_
   refine At.thenexit ?_
   refine At.blockexit ?_
   refine At.then_ ?_
   refine WC.seq ?_
   refine Qa ?_
   refine WL.next ?_
   refine WC.ret ?_
   refine fin1' rfl Q0 ?_
   refine RetP.mk hs ?_
   rw [hJ]; simp_all

theorem c_impl_EqualNets (a : PNet) (b : PNet) (w : World) (h_a : Ph.ok w a) (h_b : Ph.ok w b)  : Calls Tryz.prog 19 [.agg #[Sl.v a.servers, Sl.v a.cache.entries, Sl.v a.log, I a.now], .agg #[Sl.v b.servers, Sl.v b.cache.entries, Sl.v b.log, I b.now]].toArray w (RetP w (Bo (decide (a.lg = b.lg)))) := by
 refine enterN 31 Tryz.func19 rfl rfl rfl ?_
 have hs := Sat.start w
 refine WC.seq ?_
 refine WL.r Q0 (Yr.box hs Q0 Q0) ?_
 clear hs; rintro _ w ⟨b1, rfl, hb, hs⟩; clear hb
 refine WL.r Q0 (Yr.box hs Q0 Q0) ?_
 clear hs; rintro _ w ⟨b2, rfl, hb, hs⟩; clear hb
 refine Qa ?_
 refine WL.next ?_
 refine WC.seq ?_
 refine WL.p Q0 (Yl.fieldAddr fa30_0 Q0) ?_
 refine WL.p Q0 (Yl.loadB sca24 Q0 hs Q1 Q0) ?_
 refine WL.p Q0 (Yl.fieldAddr fa30_0 Q0) ?_
 refine WL.p Q0 (Yl.loadB sca24 Q0 hs Q1 Q0) ?_
 refine WL.callp hs Q0 (Yc.func Q0 fn92) (c_impl_EqualServers _ _ _ (Ph.old h_a.servers hs) (Ph.old h_b.servers hs)) ?_
 clear hs; intro w hs
 refine Qm ?_
 refine WL.split (d := 10) Q0 (fun h1 => ?_) (fun h1 => ?_)
 ·
  replace h1 := of_decide_eq_true h1
  refine WL.run (d := 10) Q0 Q0 ?_
  refine WL.p Q0 (Yl.fieldAddr fa30_1 Q0) ?_
  refine WL.run (d := 10) Q0 Q0 ?_
  refine WL.p Q0 (Yl.loadAB agg27 Q0 hs Q1 Q0 Q0) ?_
  refine WL.run (d := 10) Q0 Q0 ?_
  refine WL.p Q0 (Yl.fieldAddr fa30_1 Q0) ?_
  refine WL.run (d := 10) Q0 Q0 ?_
  refine WL.p Q0 (Yl.loadAB agg27 Q0 hs Q1 Q0 Q0) ?_
  refine WL.run (d := 10) Q0 Q0 ?_
  refine WL.callp hs Q0 (Yc.func Q0 fn38) (c_impl_EqualCaches _ _ _ ⟨(Ph.old h_a.cache.entries hs)⟩ ⟨(Ph.old h_b.cache.entries hs)⟩) ?_
  clear hs; intro w hs
  refine WL.p Q0 (Yl.pickT Q0 Q0) ?_
  refine Qm ?_
  refine WL.split (d := 17) Q0 (fun h2 => ?_) (fun h2 => ?_)
  ·
   replace h2 := of_decide_eq_true h2
   refine WL.run (d := 17) Q0 Q0 ?_
   refine WL.p Q0 (Yl.fieldAddr fa30_2 Q0) ?_
   refine WL.run (d := 17) Q0 Q0 ?_
   refine WL.p Q0 (Yl.loadB sca28 Q0 hs Q1 Q0) ?_
   refine WL.run (d := 17) Q0 Q0 ?_
   refine WL.p Q0 (Yl.fieldAddr fa30_2 Q0) ?_
   refine WL.run (d := 17) Q0 Q0 ?_
   refine WL.p Q0 (Yl.loadB sca28 Q0 hs Q1 Q0) ?_
   refine WL.run (d := 17) Q0 Q0 ?_
   refine WL.callp hs Q0 (Yc.func Q0 fn93) (c_slices_Equal___impl_Sent_impl_Sent_ _ _ _ (Ph.old h_a.log hs) (Ph.old h_b.log hs)) ?_
   clear hs; intro w hs
   refine WL.p Q0 (Yl.pickT Q0 Q0) ?_
   refine Qm ?_
   refine WL.split (d := 24) Q0 (fun h3 => ?_) (fun h3 => ?_)
   ·
    replace h3 := of_decide_eq_true h3
    refine WL.run (d := 24) Q0 Q0 ?_
    refine WL.p Q0 (Yl.fieldAddr fa30_3 Q0) ?_
    refine WL.run (d := 24) Q0 Q0 ?_
    refine WL.p Q0 (Yl.loadB sca3 Q0 hs Q1 Q0) ?_
    refine WL.run (d := 24) Q0 Q0 ?_
    refine WL.p Q0 (Yl.fieldAddr fa30_3 Q0) ?_
    refine WL.run (d := 24) Q0 Q0 ?_
    refine WL.p Q0 (Yl.loadB sca3 Q0 hs Q1 Q0) ?_
    refine WL.run (d := 24) Q0 Q0 ?_
    refine WL.p Q0 (Yl.eqi Q0 Q0) ?_
    refine WL.p Q0 (Yl.pickT Q0 Q0) ?_
    refine Qa ?_
    refine WL.next ?_
    refine WC.ret ?_
    refine fin1' rfl Q0 ?_
    refine RetP.mk hs ?_
    simp_all [TNet.ext_iff, TCache.ext_iff]
   ·
    replace h3 := of_decide_eq_false h3
    refine WL.skip (d := 24) Q0 Q0 Q0 Q0 ?_
    refine WL.skip (d := 24) Q0 Q0 Q0 Q0 ?_
    refine WL.skip (d := 24) Q0 Q0 Q0 Q0 ?_
    refine WL.skip (d := 24) Q0 Q0 Q0 Q0 ?_
    refine WL.skip (d := 24) Q0 Q0 Q0 Q0 ?_
    refine WL.p Q0 (Yl.pickF Q0 Q0) ?_
    refine Qa ?_
    refine WL.next ?_
    refine WC.ret ?_
    refine fin1' rfl Q0 ?_
    refine RetP.mk hs ?_
    simp_all [TNet.ext_iff, TCache.ext_iff]
  ·
   replace h2 := of_decide_eq_false h2
   refine WL.skip (d := 17) Q0 Q0 Q0 Q0 ?_
   refine WL.skip (d := 17) Q0 Q0 Q0 Q0 ?_
   refine WL.skip (d := 17) Q0 Q0 Q0 Q0 ?_
   refine WL.skip (d := 17) Q0 Q0 Q0 Q0 ?_
   refine WL.skip (d := 17) Q0 Q0 Q0 Q0 ?_
   refine WL.p Q0 (Yl.pickF Q0 Q0) ?_
   refine Qm ?_
   refine WL.skip (d := 24) Q0 Q0 Q0 Q0 ?_
   refine WL.skip (d := 24) Q0 Q0 Q0 Q0 ?_
   refine WL.skip (d := 24) Q0 Q0 Q0 Q0 ?_
   refine WL.skip (d := 24) Q0 Q0 Q0 Q0 ?_
   refine WL.skip (d := 24) Q0 Q0 Q0 Q0 ?_
   refine WL.p Q0 (Yl.pickF Q0 Q0) ?_
   refine Qa ?_
   refine WL.next ?_
   refine WC.ret ?_
   refine fin1' rfl Q0 ?_
   refine RetP.mk hs ?_
   simp_all [TNet.ext_iff, TCache.ext_iff]
 ·
  replace h1 := of_decide_eq_false h1
  refine WL.skip (d := 10) Q0 Q0 Q0 Q0 ?_
  refine WL.skip (d := 10) Q0 Q0 Q0 Q0 ?_
  refine WL.skip (d := 10) Q0 Q0 Q0 Q0 ?_
  refine WL.skip (d := 10) Q0 Q0 Q0 Q0 ?_
  refine WL.skip (d := 10) Q0 Q0 Q0 Q0 ?_
  refine WL.p Q0 (Yl.pickF Q0 Q0) ?_
  refine Qm ?_
  refine WL.skip (d := 17) Q0 Q0 Q0 Q0 ?_
  refine WL.skip (d := 17) Q0 Q0 Q0 Q0 ?_
  refine WL.skip (d := 17) Q0 Q0 Q0 Q0 ?_
  refine WL.skip (d := 17) Q0 Q0 Q0 Q0 ?_
  refine WL.skip (d := 17) Q0 Q0 Q0 Q0 ?_
  refine WL.p Q0 (Yl.pickF Q0 Q0) ?_
  refine Qm ?_
  refine WL.skip (d := 24) Q0 Q0 Q0 Q0 ?_
  refine WL.skip (d := 24) Q0 Q0 Q0 Q0 ?_
  refine WL.skip (d := 24) Q0 Q0 Q0 Q0 ?_
  refine WL.skip (d := 24) Q0 Q0 Q0 Q0 ?_
  refine WL.skip (d := 24) Q0 Q0 Q0 Q0 ?_
  refine WL.p Q0 (Yl.pickF Q0 Q0) ?_
  refine Qa ?_
  refine WL.next ?_
  refine WC.ret ?_
  refine fin1' rfl Q0 ?_
  refine RetP.mk hs ?_
  simp_all [TNet.ext_iff, TCache.ext_iff]

theorem c_spec_AreServers (l : (Sl PServer)) (w : World) (h_l : Ph.ok w l) (hb : lsz TServer.size (l.l.map PServer.lg) ≤ 1048576) : Calls Tryz.prog 98 [Sl.v l].toArray w (RetP w (Bo (serversOk (l.l.map PServer.lg)))) := by
 have hw := h_l.lt
 rw [serversOk_map]
 refine enterN 30 Tryz.func98 rfl rfl rfl ?_
 have hs := Sat.start w
 refine WC.seq ?_
 refine Qa ?_
 refine WL.next ?_
 refine WC.seq' ?_
 refine WC.seq ?_
 refine Qa ?_
 refine WL.next ?_
 refine WC.block ?_
 refine WC.loopC (ι := Nat) (fun k => l.l.length - k) (fun k => [(3, I (k : Int))]) (fun _ => []) (fun k => uniqF (fun d : PServer => serverOk d.lg) (fun d d2 : PServer => decide (d2.host = d.host)) [] l.l = uniqF (fun d : PServer => serverOk d.lg) (fun d d2 : PServer => decide (d2.host = d.host)) (l.l.take k) (l.l.drop k)) [(0, _)] 0 (hs) ⟨by rfl, trivial⟩ ⟨by rfl, trivial⟩ ?_ ?_
 ·
  simp
 clear hs; rintro k w hJ hs
 simp only [List.nil_append] at hs
 refine WC.seq' ?_
 refine WC.seq ?_
 refine Qm ?_
 refine Qm ?_
 refine WL.p Q0 (Yl.len_sl slu24 Q0) ?_
 refine WL.p Q0 (Yl.lss Q0 Q0) ?_
 refine WL.next ?_
 refine WC.condS Q0 (fun h1 => ?_) (fun h1 => ?_)
 ·
  replace h1 := of_decide_eq_true h1
  obtain ⟨d, hd⟩ := exists_get (l := l.l) (k := k) Q7
  rw [uniq_step hd] at hJ
  have hdl := lsum_le (f := fun d : PServer => d.lg.size) (List.mem_of_getElem? hd)
  have hpd : d.lg.size ≤ 1048576 := by rw [lsz_map] at hb; simp only [lsz] at hb; omega
  have hix := idx_first0 (p := fun s : PServer => decide (s.host = d.host)) hd (by simp)
  replace hix : _ ↔ (l.l.take k).any ((fun d d2 : PServer => decide (d2.host = d.host)) d) = false := hix
  generalize (l.l.take k).any ((fun d d2 : PServer => decide (d2.host = d.host)) d) = u at hJ hix
  refine WC.skipn ?_
  refine WC.seq' ?_
  refine WC.block ?_
  refine WC.seq ?_
  refine Qm ?_
  refine Qm ?_
  refine WL.p Q0 (Yl.indexAddr slt24 Q0 Q0 (Ph.old h_l hs) Q0 (hd)) ?_
  refine WL.p Q0 (Yl.loadA agg216 Q0 (Sl.Ok.at_ (Ph.old h_l hs) (by assumption)).2 Q0) ?_
  refine WL.callp hs Q0 (Yc.func Q0 fn191) (c_spec_IsServer _ _ (Ph.old (Sl.Ok.elem h_l hd) hs) (by show ∀ f ∈ (PServer.lg _).files, _; exact srv_pol hpd)) ?_
  clear hs; intro w hs
  refine WL.p Q0 (Yl.not Q0) ?_
  refine Qm ?_
  refine WL.split (d := 16) Q0 (fun h2 => ?_) (fun h2 => ?_)
  ·
   replace h2 := not_eq_true h2
   refine WL.skip (d := 16) Q0 Q0 Q0 Q0 ?_
   refine WL.skip (d := 16) Q0 Q0 Q0 Q0 ?_
   refine WL.skip (d := 16) Q0 Q0 Q0 Q0 ?_
   refine WL.skip (d := 16) Q0 Q0 Q0 Q0 ?_
   refine WL.skip (d := 16) Q0 Q0 Q0 Q0 ?_
   refine WL.skip (d := 16) Q0 Q0 Q0 Q0 ?_
   refine WL.skip (d := 16) Q0 Q0 Q0 Q0 ?_
   refine WL.skip (d := 16) Q0 Q0 Q0 Q0 ?_
   refine WL.skip (d := 16) Q0 Q0 Q0 Q0 ?_
   refine WL.p Q0 (Yl.pickT Q0 Q0) ?_
   refine WL.next ?_
   refine WC.condT Q0 ?_
   refine WC.seq ?_
   refine Qa ?_
   refine WL.next ?_
   refine WC.ret ?_
   refine At.blockret ?_
   refine At.thenret ?_
   refine At.thenret ?_
   refine At.blockret ?_
   refine At.thenret ?_
   refine fin1' rfl Q0 ?_
   refine RetP.mk hs ?_
   simp_all
   try omega
  ·
   replace h2 := not_eq_false h2
   refine WL.run (d := 16) Q0 Q0 ?_
   refine Qm ?_
   refine WL.run (d := 16) Q0 Q0 ?_
   refine Qm ?_
   refine WL.run (d := 16) Q0 Q0 ?_
   refine Qm ?_
   refine WL.run (d := 16) Q0 Q0 ?_
   refine WL.p Q0 (Yl.indexAddr slt24 Q0 Q0 (Ph.old h_l hs) Q0 (hd)) ?_
   refine WL.run (d := 16) Q0 Q0 ?_
   refine WL.p Q0 (Yl.fieldAddr fa216_0 Q0) ?_
   refine WL.run (d := 16) Q0 Q0 ?_
   refine WL.p Q0 (Yl.loadC sca9 Q0 (Sl.Ok.at_ (Ph.old h_l hs) (by assumption)).2 Q0) ?_
   refine WL.run (d := 16) Q0 Q0 ?_
   refine WL.callp hs Q0 (Yc.func Q0 fn192) (c_spec_l12Server _ _ _ (Ph.old h_l hs)) ?_
   clear hs; intro w hs
   refine WL.run (d := 16) Q0 Q0 ?_
   refine Qm ?_
   refine WL.run (d := 16) Q0 Q0 ?_
   refine WL.p Q0 (Yl.nei Q0 Q0) ?_
   refine WL.p Q0 (Yl.pickF Q0 Q0) ?_
   refine WL.next ?_
   refine WC.condS Q0 (fun h3 => ?_) (fun h3 => ?_)
   ·
    replace h3 := not_eq_true h3
    replace h3 := of_decide_eq_false h3
    refine WC.seq ?_
    refine Qa ?_
    refine WL.next ?_
    refine WC.ret ?_
    refine At.blockret ?_
    refine At.thenret ?_
    refine At.thenret ?_
    refine At.blockret ?_
    refine At.thenret ?_
    refine fin1' rfl Q0 ?_
    refine RetP.mk hs ?_
    simp_all
    try omega
   ·
    replace h3 := not_eq_false h3
    replace h3 := of_decide_eq_true h3
    refine WC.skip ?_
    refine At.blocknormal ?_
    refine At.then_ ?_
    refine WC.region ?_
    refine Qm ?_
    refine WL.p Q0 (Yl.add Q0 Q0 Q7) ?_
    refine Qa ?_
    refine WL.nil ?_
    refine At.roundC (k + 1) (hs.only Q2) ⟨by rfl, trivial⟩ ⟨by rfl, trivial⟩ ?_ ?_
    ·
     omega
    ·
     rw [hJ]; simp_all
 ·
  replace h1 := of_decide_eq_false h1
  rw [uniq_end (l := l.l) Q7] at hJ
  refine WC.exit ?_
  refine At.thenexit ?_
  refine At.thenexit ?_
  refine At.blockexit ?_
  refine At.then_ ?_
  refine WC.seq ?_
  refine Qm ?_
  refine WL.p Q0 (Yl.len_sl slu24 Q0) ?_
  refine WL.p Q0 (Yl.leq Q0 Q0) ?_
  refine Qa ?_
  refine WL.next ?_
  refine WC.ret ?_
  refine fin1' rfl Q0 ?_
  refine RetP.mk hs ?_
  simp_all
  try omega

theorem c_spec_IsNet (n : PNet) (w : World) (h_n : Ph.ok w n) (hbs : lsz TServer.size n.lg.servers ≤ 1048576) (hbc : n.lg.cache.size ≤ 1048576) (hbl : n.log.l.length ≤ 1048577) : Calls Tryz.prog 22 [.agg #[Sl.v n.servers, Sl.v n.cache.entries, Sl.v n.log, I n.now]].toArray w (RetP w (Bo (netOk n.lg))) := by
 refine enterN 22 Tryz.func22 rfl rfl rfl ?_
 have hs := Sat.start w
 refine WC.seq ?_
 refine WL.r Q0 (Yr.box hs Q0 Q0) ?_
 clear hs; rintro _ w ⟨b1, rfl, hb, hs⟩; clear hb
 refine Qa ?_
 refine WL.next ?_
 refine WC.seq ?_
 refine WL.p Q0 (Yl.fieldAddr fa30_0 Q0) ?_
 refine WL.p Q0 (Yl.loadB sca24 Q0 hs Q1 Q0) ?_
 refine WL.callp hs Q0 (Yc.func Q0 fn98) (c_spec_AreServers _ _ (Ph.old h_n.servers hs) (by exact hbs)) ?_
 clear hs; intro w hs
 refine Qm ?_
 refine WL.split (d := 6) Q0 (fun h1 => ?_) (fun h1 => ?_)
 ·
  refine WL.run (d := 6) Q0 Q0 ?_
  refine WL.p Q0 (Yl.fieldAddr fa30_1 Q0) ?_
  refine WL.run (d := 6) Q0 Q0 ?_
  refine WL.p Q0 (Yl.loadAB agg27 Q0 hs Q1 Q0 Q0) ?_
  refine WL.run (d := 6) Q0 Q0 ?_
  refine WL.callp hs Q0 (Yc.func Q0 fn99) (c_spec_IsCache _ _ ⟨(Ph.old h_n.cache.entries hs)⟩ (by show ∀ e ∈ (PCache.lg _).entries, _; exact cache_pol hbc)) ?_
  clear hs; intro w hs
  refine WL.p Q0 (Yl.pickT Q0 Q0) ?_
  refine Qm ?_
  refine WL.split (d := 11) Q0 (fun h2 => ?_) (fun h2 => ?_)
  ·
   refine WL.run (d := 11) Q0 Q0 ?_
   refine WL.p Q0 (Yl.fieldAddr fa30_2 Q0) ?_
   refine WL.run (d := 11) Q0 Q0 ?_
   refine WL.p Q0 (Yl.loadB sca28 Q0 hs Q1 Q0) ?_
   refine WL.run (d := 11) Q0 Q0 ?_
   refine WL.p Q0 (Yl.len_sl slu28 Q0) ?_
   refine WL.run (d := 11) Q0 Q0 ?_
   refine WL.p Q0 (Yl.leq Q0 Q0) ?_
   refine WL.p Q0 (Yl.pickT Q0 Q0) ?_
   refine Qm ?_
   refine WL.split (d := 17) Q0 (fun h3 => ?_) (fun h3 => ?_)
   ·
    replace h3 := of_decide_eq_true h3
    refine WL.run (d := 17) Q0 Q0 ?_
    refine WL.p Q0 (Yl.fieldAddr fa30_3 Q0) ?_
    refine WL.run (d := 17) Q0 Q0 ?_
    refine WL.p Q0 (Yl.loadB sca3 Q0 hs Q1 Q0) ?_
    refine WL.run (d := 17) Q0 Q0 ?_
    refine WL.callp hs Q0 (Yc.func Q0 fn95) (c_spec_l1In _ _ _ _) ?_
    clear hs; intro w hs
    refine WL.p Q0 (Yl.pickT Q0 Q0) ?_
    refine Qa ?_
    refine WL.next ?_
    refine WC.ret ?_
    refine fin1' rfl Q0 ?_
    refine RetP.mk hs ?_
    simp_all [netOk, inR]
    try omega
   ·
    replace h3 := of_decide_eq_false h3
    refine WL.skip (d := 17) Q0 Q0 Q0 Q0 ?_
    refine WL.skip (d := 17) Q0 Q0 Q0 Q0 ?_
    refine WL.skip (d := 17) Q0 Q0 Q0 Q0 ?_
    refine WL.p Q0 (Yl.pickF Q0 Q0) ?_
    refine Qa ?_
    refine WL.next ?_
    refine WC.ret ?_
    refine fin1' rfl Q0 ?_
    refine RetP.mk hs ?_
    simp_all [netOk, inR]
    try omega
  ·
   refine WL.skip (d := 11) Q0 Q0 Q0 Q0 ?_
   refine WL.skip (d := 11) Q0 Q0 Q0 Q0 ?_
   refine WL.skip (d := 11) Q0 Q0 Q0 Q0 ?_
   refine WL.skip (d := 11) Q0 Q0 Q0 Q0 ?_
   refine WL.p Q0 (Yl.pickF Q0 Q0) ?_
   refine Qm ?_
   refine WL.skip (d := 17) Q0 Q0 Q0 Q0 ?_
   refine WL.skip (d := 17) Q0 Q0 Q0 Q0 ?_
   refine WL.skip (d := 17) Q0 Q0 Q0 Q0 ?_
   refine WL.p Q0 (Yl.pickF Q0 Q0) ?_
   refine Qa ?_
   refine WL.next ?_
   refine WC.ret ?_
   refine fin1' rfl Q0 ?_
   refine RetP.mk hs ?_
   simp_all [netOk, inR]
   try omega
 ·
  refine WL.skip (d := 6) Q0 Q0 Q0 Q0 ?_
  refine WL.skip (d := 6) Q0 Q0 Q0 Q0 ?_
  refine WL.skip (d := 6) Q0 Q0 Q0 Q0 ?_
  refine WL.p Q0 (Yl.pickF Q0 Q0) ?_
  refine Qm ?_
  refine WL.skip (d := 11) Q0 Q0 Q0 Q0 ?_
  refine WL.skip (d := 11) Q0 Q0 Q0 Q0 ?_
  refine WL.skip (d := 11) Q0 Q0 Q0 Q0 ?_
  refine WL.skip (d := 11) Q0 Q0 Q0 Q0 ?_
  refine WL.p Q0 (Yl.pickF Q0 Q0) ?_
  refine Qm ?_
  refine WL.skip (d := 17) Q0 Q0 Q0 Q0 ?_
  refine WL.skip (d := 17) Q0 Q0 Q0 Q0 ?_
  refine WL.skip (d := 17) Q0 Q0 Q0 Q0 ?_
  refine WL.p Q0 (Yl.pickF Q0 Q0) ?_
  refine Qa ?_
  refine WL.next ?_
  refine WC.ret ?_
  refine fin1' rfl Q0 ?_
  refine RetP.mk hs ?_
  simp_all [netOk, inR]
  try omega

theorem c_spec_WaitNet (n : PNet) (ticks : Int) (w : World) (h_n : Ph.ok w n) (h_ticks : Ph.ok w ticks) (hbs : lsz TServer.size n.lg.servers ≤ 1048576) (hbc : n.lg.cache.size ≤ 1048576) (hbl : n.log.l.length ≤ 1048577) : Calls Tryz.prog 20 [.agg #[Sl.v n.servers, Sl.v n.cache.entries, Sl.v n.log, I n.now], I ticks].toArray w (Ret w (fun v w' => ∃ x : PNet, v = .agg (Ph.enc x).toArray ∧ x.lg = waitNet n.lg ticks ∧ Fresh w x w')) := by
 refine enterN 31 Tryz.func20 rfl rfl rfl ?_
 have hs := Sat.start w
 refine WC.seq ?_
 refine WL.r Q0 (Yr.box hs Q0 Q0) ?_
 clear hs; rintro _ w ⟨b1, rfl, hb, hs⟩; clear hb
 refine WL.r Q0 (Yr.alloc hs zt30) ?_
 clear hs; rintro _ w ⟨b2, rfl, hb, hs⟩; clear hb
 refine WL.next ?_
 refine WC.seq ?_
 refine WL.p Q0 (Yl.loadAB agg30 Q0 hs Q1 Q0 Q0) ?_
 refine WL.call hs Q0 (Yc.func Q0 fn94) (c_spec_l14Copy _ _ (Ph.old h_n hs) (by exact hbs) (by exact hbc) (by exact hbl)) ?_
 have hs0 := hs; clear hs; intro v w hb hR hs; clear hs
 obtain ⟨x3, rfl, hx3, hf3⟩ := hR
 obtain ⟨F3, hs⟩ := hf3.sat hs0 hb; clear hs0 hf3
 refine WL.r Q0 (Yr.alloc hs zt30) ?_
 clear hs; rintro _ w ⟨b4, rfl, hb, hs⟩; clear hb
 refine WL.s (Yr.storeB hs Q0 Q0 Q0 Q5 Q3 Q0 (by exact szf30)) ?_
 clear hs; rintro _ w hs
 refine WL.next ?_
 refine WC.seq' ?_
 refine WC.seq ?_
 refine Qm ?_
 refine WL.callp hs Q0 (Yc.func Q0 fn95) (c_spec_l1In _ _ _ _) ?_
 clear hs; intro w hs
 refine WL.p Q0 (Yl.not Q0) ?_
 refine Qm ?_
 refine WL.split (d := 11) Q0 (fun h1 => ?_) (fun h1 => ?_)
 ·
  replace h1 := not_eq_true h1
  replace h1 := inR_false.1 h1
  refine WL.skip (d := 11) Q0 Q0 Q0 Q0 ?_
  refine WL.skip (d := 11) Q0 Q0 Q0 Q0 ?_
  refine WL.skip (d := 11) Q0 Q0 Q0 Q0 ?_
  refine WL.p Q0 (Yl.pickT Q0 Q0) ?_
  refine Qm ?_
  refine WL.skip (d := 16) Q0 Q0 Q0 Q0 ?_
  refine WL.skip (d := 16) Q0 Q0 Q0 Q0 ?_
  refine WL.skip (d := 16) Q0 Q0 Q0 Q0 ?_
  refine WL.skip (d := 16) Q0 Q0 Q0 Q0 ?_
  refine WL.skip (d := 16) Q0 Q0 Q0 Q0 ?_
  refine WL.skip (d := 16) Q0 Q0 Q0 Q0 ?_
  refine WL.p Q0 (Yl.pickT Q0 Q0) ?_
  refine WL.next ?_
  refine WC.condT Q0 ?_
  refine WC.seq ?_
  refine WL.p Q0 (Yl.loadAB agg30 Q0 hs Q1 Q0 Q0) ?_
  refine WL.s (Yr.storeB hs Q0 Q0 Q0 Q5 Q3 Q0 (by exact szf30)) ?_
  clear hs; rintro _ w hs
  refine WL.next ?_
  refine WC.ret ?_
  refine At.thenret ?_
  refine fin1c rfl agg30 Q0 hs Q1 Q0 ?_
  refine Ret.mk hs ?_
  have hb9 : (inR ticks 0 1000 && (netOk n.lg && inR (n.lg.now + ticks) 0 999999998000)) = false := by
   clear hs
   try simp only [← inR_true] at *
   try simp only [← inR_false] at *
   simp_all
  have hq9 : waitNet n.lg ticks = n.lg := by unfold waitNet; rw [if_neg (by rw [hb9]; decide)]
  exact ⟨x3, rfl, hx3.trans hq9.symm, hs.fresh Q1⟩
 ·
  replace h1 := not_eq_false h1
  replace h1 := inR_true.1 h1
  refine WL.run (d := 11) Q0 Q0 ?_
  refine WL.p Q0 (Yl.loadAB agg30 Q0 hs Q1 Q0 Q0) ?_
  refine WL.run (d := 11) Q0 Q0 ?_
  refine WL.callp hs Q0 (Yc.func Q0 fn22) (c_spec_IsNet _ _ (Ph.old h_n hs) (by first | exact hbs | exact Nat.le_trans (Nat.le_of_eq (congrArg (fun z => lsz TServer.size z.servers) hx3)) hbs) (by first | exact hbc | exact Nat.le_trans (Nat.le_of_eq (congrArg (fun z => z.cache.size) hx3)) hbc) (by first | exact hbl | (have e9 := congrArg (fun z => z.log.length) hx3; exact Nat.le_trans (Nat.le_of_eq e9) hbl))) ?_
  clear hs; intro w hs
  refine WL.run (d := 11) Q0 Q0 ?_
  refine WL.p Q0 (Yl.not Q0) ?_
  refine WL.p Q0 (Yl.pickF Q0 Q0) ?_
  refine Qm ?_
  refine WL.split (d := 16) Q0 (fun h2 => ?_) (fun h2 => ?_)
  ·
   replace h2 := not_eq_true h2
   refine WL.skip (d := 16) Q0 Q0 Q0 Q0 ?_
   refine WL.skip (d := 16) Q0 Q0 Q0 Q0 ?_
   refine WL.skip (d := 16) Q0 Q0 Q0 Q0 ?_
   refine WL.skip (d := 16) Q0 Q0 Q0 Q0 ?_
   refine WL.skip (d := 16) Q0 Q0 Q0 Q0 ?_
   refine WL.skip (d := 16) Q0 Q0 Q0 Q0 ?_
   refine WL.p Q0 (Yl.pickT Q0 Q0) ?_
   refine WL.next ?_
   refine WC.condT Q0 ?_
   refine WC.seq ?_
   refine WL.p Q0 (Yl.loadAB agg30 Q0 hs Q1 Q0 Q0) ?_
   refine WL.s (Yr.storeB hs Q0 Q0 Q0 Q5 Q3 Q0 (by exact szf30)) ?_
   clear hs; rintro _ w hs
   refine WL.next ?_
   refine WC.ret ?_
   refine At.thenret ?_
   refine fin1c rfl agg30 Q0 hs Q1 Q0 ?_
   refine Ret.mk hs ?_
   have hb9 : (inR ticks 0 1000 && (netOk n.lg && inR (n.lg.now + ticks) 0 999999998000)) = false := by
    clear hs
    try simp only [← inR_true] at *
    try simp only [← inR_false] at *
    simp_all
   have hq9 : waitNet n.lg ticks = n.lg := by unfold waitNet; rw [if_neg (by rw [hb9]; decide)]
   exact ⟨x3, rfl, hx3.trans hq9.symm, hs.fresh Q1⟩
  ·
   replace h2 := not_eq_false h2
   refine WL.run (d := 16) Q0 Q0 ?_
   refine WL.p Q0 (Yl.fieldAddr fa30_3 Q0) ?_
   refine WL.run (d := 16) Q0 Q0 ?_
   refine WL.p Q0 (Yl.loadB sca3 Q0 hs Q1 Q0) ?_
   refine WL.run (d := 16) Q0 Q0 ?_
   refine Qm ?_
   refine WL.run (d := 16) Q0 Q0 ?_
   refine WL.p Q0 (Yl.add Q0 Q0 (by first | omega | (rename_i q1 q2; omega) | (have h9 := h_n.now; simp_all [netOk, inR]; omega))) ?_
   refine WL.run (d := 16) Q0 Q0 ?_
   refine WL.callp hs Q0 (Yc.func Q0 fn95) (c_spec_l1In _ _ _ _) ?_
   clear hs; intro w hs
   refine WL.run (d := 16) Q0 Q0 ?_
   refine WL.p Q0 (Yl.not Q0) ?_
   refine WL.p Q0 (Yl.pickF Q0 Q0) ?_
   refine WL.next ?_
   refine WC.condS Q0 (fun h3 => ?_) (fun h3 => ?_)
   ·
    replace h3 := not_eq_true h3
    replace h3 := inR_false.1 h3
    refine WC.seq ?_
    refine WL.p Q0 (Yl.loadAB agg30 Q0 hs Q1 Q0 Q0) ?_
    refine WL.s (Yr.storeB hs Q0 Q0 Q0 Q5 Q3 Q0 (by exact szf30)) ?_
    clear hs; rintro _ w hs
    refine WL.next ?_
    refine WC.ret ?_
    refine At.thenret ?_
    refine fin1c rfl agg30 Q0 hs Q1 Q0 ?_
    refine Ret.mk hs ?_
    have hb9 : (inR ticks 0 1000 && (netOk n.lg && inR (n.lg.now + ticks) 0 999999998000)) = false := by
     clear hs
     try simp only [← inR_true] at *
     try simp only [← inR_false] at *
     simp_all
    have hq9 : waitNet n.lg ticks = n.lg := by unfold waitNet; rw [if_neg (by rw [hb9]; decide)]
    exact ⟨x3, rfl, hx3.trans hq9.symm, hs.fresh Q1⟩
   ·
    replace h3 := not_eq_false h3
    replace h3 := inR_true.1 h3
    refine WC.skipn ?_
    refine WC.seq ?_
    refine WL.p Q0 (Yl.fieldAddr fa30_3 Q0) ?_
    refine WL.p Q0 (Yl.loadB sca3 Q0 hs Q1 Q0) ?_
    refine Qm ?_
    refine WL.p Q0 (Yl.add Q0 Q0 (by first | omega | (rename_i q1 q2; omega) | (have h9 := h_n.now; simp_all [netOk, inR]; omega))) ?_
    refine WL.p Q0 (Yl.fieldAddr fa30_3 Q0) ?_
    refine WL.s (Yr.storeB hs Q0 Q0 Q0 Q5 Q3 Q0 (by exact szf3)) ?_
    clear hs; rintro _ w hs
    refine WL.next ?_
    refine WC.seq ?_
    refine WL.p Q0 (Yl.loadAB agg30 Q0 hs Q1 Q0 Q0) ?_
    refine WL.s (Yr.storeB hs Q0 Q0 Q0 Q5 Q3 Q0 (by exact szf30)) ?_
    clear hs; rintro _ w hs
    refine WL.next ?_
    refine WC.ret ?_
    refine fin1c rfl agg30 Q0 hs Q1 Q0 ?_
    obtain ⟨K5_0, K5_1, K5_2, hfl5, hs⟩ := PNet.split (hs.sel (D := [ow x3 F3]) Q2)
    try simp only [List.cons_append, List.nil_append] at hs
    refine Ret.mk hs ?_
    refine ⟨(⟨x3.servers, x3.cache, x3.log, (n.now + ticks)⟩ : PNet), rfl, ?_, ?_⟩
    · have e1_ := congrArg TNet.servers hx3; have e2_ := congrArg TNet.cache hx3; have e3_ := congrArg TNet.log hx3; have e4_ := congrArg TNet.now hx3
      have hb9 : (inR ticks 0 1000 && (netOk n.lg && inR (n.lg.now + ticks) 0 999999998000)) = true := by
       clear hs
       try simp only [← inR_true] at *
       simp_all
      unfold waitNet
      rw [if_pos hb9, ← e1_, ← e2_, ← e3_]
      try rfl
    · exact (PNet.join (⟨x3.servers, x3.cache, x3.log, (n.now + ticks)⟩ : PNet) (hs.only (D := [ow x3.servers K5_0, ow x3.cache K5_1, ow x3.log K5_2]) Q2) (by first | exact (show WfI ((n.now + ticks)) from ⟨by omega, by omega⟩) | assumption | trivial)).fresh List.mem_cons_self

theorem c_laws_FnNetworks (code : (Sl UInt8)) (w : World) (h_code : Ph.ok w code) (hm_ : ∃ m, w.cell? ⟨0, 0, none⟩ = some (.int .i64 m)) : Calls Tryz.prog 3 [Sl.v code].toArray w (RetP w (Bo true)) := by
 refine enterN 109 Tryz.func3 rfl rfl rfl ?_
 have hs := Sat.start w
 refine WC.seq ?_
 refine Qa ?_
 refine WL.next ?_
 refine WC.seq' ?_
 refine WC.seq ?_
 refine Qm ?_
 refine WL.callp hs Q0 (Yc.func Q0 fn10) (c_laws_big _ _ (Ph.old h_code hs)) ?_
 clear hs; intro w hs
 refine WL.next ?_
 refine WC.condS Q0 (fun h1 => ?_) (fun h1 => ?_)
 ·
  replace h1 := of_decide_eq_true h1
  refine WC.seq ?_
  refine Qa ?_
  refine WL.next ?_
  refine WC.ret ?_
  refine At.thenret ?_
  refine fin1' rfl Q0 ?_
  refine RetP.mk hs ?_
  first
   | rfl
   | (rcases hw9 with e9 | e9 <;> simp_all; done)
   | (clear hs; simp_all; done)
   | (clear hs; simp_all; omega)
 ·
  replace h1 := of_decide_eq_false h1
  refine WC.skipn ?_
  refine WC.seq ?_
  refine Qm ?_
  refine WL.callx hs Q0 (Yc.func Q0 fn11) (c_spec_DrawSentTo _ _ (Ph.old h_code hs)) ?_
  clear hs; intro v w ho hR hs
  obtain ⟨x1_n, x1_h, rfl, hokx1_h, hx1, hf1⟩ := hR
  obtain ⟨F1, hs⟩ := hs.addF ho hf1
  clear ho hf1
  have hl1 := hx1.1.len; simp only [PNet.lg] at hl1
  refine Qm ?_
  refine WL.p Q0 (Yl.extract Q0 Q0) ?_
  refine WL.p Q0 (Yl.extract Q0 Q0) ?_
  refine WL.r Q0 (Yr.alloc hs zt30) ?_
  clear hs; rintro _ w ⟨b2, rfl, hb, hs⟩; clear hb
  refine WL.s (Yr.storeB hs Q0 Q0 Q0 Q5 Q3 Q0 (by exact szf30)) ?_
  clear hs; rintro _ w hs
  refine Qa ?_
  refine WL.next ?_
  refine WC.seq ?_
  refine WL.p Q0 (Yl.loadAB agg30 Q0 hs Q1 Q0 Q0) ?_
  refine Qm ?_
  refine WL.call hs Q0 (Yc.func Q0 fn12) (c_impl_SentTo _ _ _ (hs.okow (x := x1_n) (F := F1) Q1) (by have h7 := hx1.1.srv; have h8 := hx1.1.cch; have h9 := hx1.1.log; simp only [TNet.size, PNet.lg] at h7 h8 h9 ⊢; omega)) ?_
  have hs0 := hs; clear hs; intro v w hb hR hs; clear hs
  obtain ⟨x3, rfl, hx3, hf3⟩ := hR
  obtain ⟨F3, hs⟩ := hf3.sat hs0 hb; clear hs0 hf3
  have hz3 := cnt_of hx3; simp only [PNet.lg] at hz3
  have hle3 := Sl.Ok.le (hs.okow (x := x3) (F := F3) Q1)
  refine WL.p Q0 (Yl.len_sl slu28 Q0) ?_
  refine Qa ?_
  refine WL.next ?_
  refine WC.seq' ?_
  refine WC.seq ?_
  refine WL.r Q0 (Yr.buildSlice hs sll34 Q0 Q0 Q0 Q4 Q0) ?_
  clear hs; rintro _ w ⟨b4, rfl, hb, hs⟩; clear hb
  replace hs := Sat.boxow (l := ([([104, 111, 109, 101] : Str), ([99, 100, 110] : Str), ([101, 118, 105, 108] : Str)] : List Str)) (hs.sel (D := [box b4 _ _]) Q2) rfl rfl (by decide) (ownL_mk_flat (lit_str Q0))
  try simp only [List.cons_append, List.nil_append] at hs
  refine WL.p Q0 (Yl.len_sl slu34 Q0) ?_
  refine Qm ?_
  refine WL.next ?_
  refine WC.block ?_
  refine WC.loopC (ι := Nat × Nat) (fun ⟨k, t⟩ => 3 - k) (fun ⟨k, t⟩ => [(26, I (k : Int)), (5, I (t : Int))]) (fun _ => []) (fun ⟨k, t⟩ => k ≤ 3 ∧ t ≤ (k + 1) * 9000 ∧ t = cntTo x1_n.log.l x1_h + sumTo x1_n.log.l x1_h (hosts3.take k)) [(0, _), (2, _), (3, _), (4, _), (14, _), (24, _), (25, _)] (0, x3.l.length) (hs) ⟨by rfl, by rfl, by rfl, by rfl, by rfl, by rfl, by rfl, trivial⟩ ⟨by rfl, by rfl, trivial⟩ ?_ ?_
  ·
   show 0 ≤ 3 ∧ x3.l.length ≤ (0 + 1) * 9000 ∧ x3.l.length = cntTo x1_n.log.l x1_h + sumTo x1_n.log.l x1_h (hosts3.take 0)
   exact ⟨by omega, by omega, by rw [hz3.1]; rfl⟩
  clear hs; rintro ⟨k, t⟩ w ⟨hJ1, hJ2, hJ3⟩ hs
  simp only [List.nil_append] at hs
  refine WC.seq ?_
  refine WL.p Q0 (Yl.lss Q0 Q0) ?_
  refine WL.next ?_
  refine WC.seq' ?_
  refine WC.condS Q0 (fun h2 => ?_) (fun h2 => ?_)
  ·
   replace h2 := of_decide_eq_true h2
   replace h2 : (k : Int) < 3 := h2
   obtain ⟨d, hd⟩ := exists_get (l := ([([104, 111, 109, 101] : Str), ([99, 100, 110] : Str), ([101, 118, 105, 108] : Str)] : List Str)) (k := k) (by simp; omega)
   have hdn := mem_len 4 (List.mem_of_getElem? hd) Q0
   have hst := sumTo_step (L := x1_n.log.l) (host := x1_h) (l := hosts3) (k := k) (d := d) hd
   refine WC.skipn ?_
   refine WC.seq' ?_
   refine WC.block ?_
   refine WC.seq ?_
   refine WL.p Q0 (Yl.indexAddr slt34 Q0 Q0 (hs.okow (x := (⟨[([104, 111, 109, 101] : Str), ([99, 100, 110] : Str), ([101, 118, 105, 108] : Str)], some ⟨b4, 0, none⟩, 3⟩ : Sl Str)) (F := [b4]) Q1) Q0 (hd)) ?_
   refine WL.p Q0 (Yl.loadC0 sca9 Q0 (Sl.Ok.at_ (hs.okow (x := (⟨[([104, 111, 109, 101] : Str), ([99, 100, 110] : Str), ([101, 118, 105, 108] : Str)], some ⟨b4, 0, none⟩, 3⟩ : Sl Str)) (F := [b4]) Q1) (by assumption)).2 Q0) ?_
   refine Qa ?_
   refine WL.next ?_
   refine WC.seq ?_
   refine Qm ?_
   refine Qm ?_
   refine WL.p Q0 (Yl.nes Q0 Q0) ?_
   refine WL.next ?_
   refine WC.condS Q0 (fun h3 => ?_) (fun h3 => ?_)
   ·
    replace h3 := not_eq_true h3
    replace h3 := of_decide_eq_false h3
    refine WC.region ?_
    refine Qm ?_
    refine WL.p Q0 (Yl.loadAB agg30 Q0 hs Q1 Q0 Q0) ?_
    refine Qm ?_
    refine WL.call hs Q0 (Yc.func Q0 fn12) (c_impl_SentTo _ _ _ (hs.okow (x := x1_n) (F := F1) Q1) (by have h7 := hx1.1.srv; have h8 := hx1.1.cch; have h9 := hx1.1.log; simp only [TNet.size, PNet.lg] at h7 h8 h9 ⊢; omega)) ?_
    have hs0 := hs; clear hs; intro v w hb hR hs; clear hs
    obtain ⟨x5, rfl, hx5, hf5⟩ := hR
    obtain ⟨F5, hs⟩ := hf5.sat hs0 hb; clear hs0 hf5
    have hz5 := cnt_of hx5; simp only [PNet.lg] at hz5
    have hle5 := Sl.Ok.le (hs.okow (x := x5) (F := F5) Q1)
    refine WL.p Q0 (Yl.len_sl slu28 Q0) ?_
    refine WL.p Q0 (Yl.add Q0 Q0 Q7) ?_
    refine Qa ?_
    refine WL.nil ?_
    refine At.blocknormal ?_
    refine At.then_ ?_
    refine WC.region ?_
    refine WL.p Q0 (Yl.add Q0 Q0 Q7) ?_
    refine Qm ?_
    refine WL.nil ?_
    refine At.roundC (k + 1, t + x5.l.length) (hs.only Q2) ⟨by rfl, by rfl, by rfl, by rfl, by rfl, by rfl, by rfl, trivial⟩ ⟨by rfl, by exact congrArg (fun z => some (I z)) Q7, trivial⟩ ?_ ?_
    ·
     show 3 - (k + 1) < 3 - k
     omega
    ·
     rw [if_neg (by assumption)] at hst
     refine ⟨by omega, ?_, ?_⟩
     · show t + x5.l.length ≤ (k + 1 + 1) * 9000
       omega
     · show t + x5.l.length = _
       rw [hst, hz5.1]; omega
   ·
    replace h3 := not_eq_false h3
    replace h3 := of_decide_eq_true h3
    refine WC.skip ?_
    refine At.blocknormal ?_
    refine At.then_ ?_
    refine WC.region ?_
    refine WL.p Q0 (Yl.add Q0 Q0 Q7) ?_
    refine Qm ?_
    refine WL.nil ?_
    refine At.roundC (k + 1, t) (hs.only Q2) ⟨by rfl, by rfl, by rfl, by rfl, by rfl, by rfl, by rfl, trivial⟩ ⟨by rfl, by exact congrArg (fun z => some (I z)) Q7, trivial⟩ ?_ ?_
    ·
     show 3 - (k + 1) < 3 - k
     omega
    ·
     rw [if_pos (by assumption)] at hst
     refine ⟨by omega, ?_, ?_⟩
     · exact Nat.le_trans hJ2 (Nat.mul_le_mul_right _ (Nat.le_succ _))
     · rw [hst]; exact hJ3
  ·
   replace h2 := of_decide_eq_false h2
   refine WC.exit ?_
   refine At.thenexit ?_
   refine At.thenexit ?_
   refine At.blockexit ?_
   refine At.then_ ?_
   refine WC.seq ?_
   refine WL.p Q0 (Yl.fieldAddr fa30_2 Q0) ?_
   refine WL.p Q0 (Yl.loadB sca28 Q0 hs Q1 Q0) ?_
   refine WL.call hs Q0 (Yc.func Q0 fn13) (c_impl_SentSorted _ _ (hs.okow (x := x1_n) (F := F1) Q1).log Q7) ?_
   have hs0 := hs; clear hs; intro v w hb hR hs; clear hs
   obtain ⟨x6, rfl, hx6, hf6⟩ := hR
   obtain ⟨F6, hs⟩ := hf6.sat hs0 hb; clear hs0 hf6
   have hsum : t = x1_n.log.l.length := by
    have e9 : k = 3 := by have h9 : ¬ ((k : Int) < 3) := h2; omega
    rw [hJ3, e9]; exact sum_all hx1.2 (L := x1_n.log.l) (fun s hs => hx1.1.hst s hs)
   have hmem : ∀ (j : Nat) (d : TSent), x1_n.log.l[j]? = some d → d.to ∈ x6.l := fun j d hj => by
    rw [hx6, sortA_mem]; exact List.mem_map_of_mem (List.mem_of_getElem? hj)
   have hle6 := Sl.Ok.le (hs.okow (x := x6) (F := F6) Q1)
   refine Qa ?_
   refine WL.next ?_
   refine WC.seq' ?_
   refine WC.seq ?_
   refine Qa ?_
   refine WL.next ?_
   refine WC.block ?_
   refine WC.loopC (ι := Nat) (fun k => x1_n.log.l.length - k) (fun k => [(9, I (k : Int))]) (fun _ => []) (fun k => True) [(0, _), (3, _), (4, _), (5, _), (8, _), (14, _), (24, _), (25, _), (26, _), (27, _)] 0 (hs) ⟨by rfl, by rfl, by rfl, by rfl, by rfl, by rfl, by rfl, by rfl, by rfl, by rfl, trivial⟩ ⟨by rfl, trivial⟩ ?_ ?_
   ·
    exact trivial
   clear hs; rintro k w hJ hs
   simp only [List.nil_append] at hs
   refine WC.seq' ?_
   refine WC.seq ?_
   refine Qm ?_
   refine WL.p Q0 (Yl.fieldAddr fa30_2 Q0) ?_
   refine WL.p Q0 (Yl.loadB sca28 Q0 hs Q1 Q0) ?_
   refine WL.p Q0 (Yl.len_sl slu28 Q0) ?_
   refine WL.p Q0 (Yl.lss Q0 Q0) ?_
   refine WL.next ?_
   refine WC.condS Q0 (fun h3 => ?_) (fun h3 => ?_)
   ·
    replace h3 := of_decide_eq_true h3
    obtain ⟨d, hd⟩ := exists_get (l := x1_n.log.l) (k := k) Q7
    refine WC.skipn ?_
    refine WC.seq' ?_
    refine WC.block ?_
    refine WC.seq ?_
    refine Qm ?_
    refine WL.p Q0 (Yl.fieldAddr fa30_2 Q0) ?_
    refine WL.p Q0 (Yl.loadB sca28 Q0 hs Q1 Q0) ?_
    refine Qm ?_
    refine WL.p Q0 (Yl.indexAddr slt28 Q0 Q0 (hs.okow (x := x1_n) (F := F1) Q1).log Q0 (hd)) ?_
    refine WL.p Q0 (Yl.fieldAddr fa41_1 Q0) ?_
    refine WL.p Q0 (Yl.loadAC agg39 Q0 (Sl.Ok.at_ (hs.okow (x := x1_n) (F := F1) Q1).log (by assumption)).2 Q0 Q0) ?_
    refine WL.callp hs Q0 (Yc.func Q0 fn14) (c_impl_HasAddr _ _ _ (hs.okow (x := x6) (F := F6) Q1)) ?_
    clear hs; intro w hs
    refine WL.p Q0 (Yl.not Q0) ?_
    refine WL.next ?_
    refine WC.condS Q0 (fun h4 => ?_) (fun h4 => ?_)
    ·
     replace h4 := not_eq_true h4
     replace h4 := of_decide_eq_false h4
     exact absurd (hmem _ _ hd) h4
    ·
     replace h4 := not_eq_false h4
     replace h4 := of_decide_eq_true h4
     refine WC.skip ?_
     refine At.blocknormal ?_
     refine At.then_ ?_
     refine WC.region ?_
     refine Qm ?_
     refine WL.p Q0 (Yl.add Q0 Q0 Q7) ?_
     refine Qa ?_
     refine WL.nil ?_
     refine At.roundC (k + 1) (hs.only Q2) ⟨by rfl, by rfl, by rfl, by rfl, by rfl, by rfl, by rfl, by rfl, by rfl, by rfl, trivial⟩ ⟨by rfl, trivial⟩ ?_ ?_
     ·
      omega
     ·
      trivial
   ·
    replace h3 := of_decide_eq_false h3
    refine WC.exit ?_
    refine At.thenexit ?_
    refine At.thenexit ?_
    refine At.blockexit ?_
    refine At.then_ ?_
    refine WC.seq ?_
    refine Qm ?_
    refine WL.callx hs Q0 (Yc.func Q0 fn15) (c_spec_DrawWaitNet _ _ (Ph.old h_code hs)) ?_
    clear hs; intro v w ho hR hs
    obtain ⟨x7_n, x7_t, rfl, hokx7_t, hx7, hf7⟩ := hR
    obtain ⟨F7, hs⟩ := hs.addF ho hf7
    clear ho hf7
    refine Qm ?_
    refine WL.p Q0 (Yl.extract Q0 Q0) ?_
    refine WL.p Q0 (Yl.extract Q0 Q0) ?_
    refine WL.r Q0 (Yr.alloc hs zt30) ?_
    clear hs; rintro _ w ⟨b8, rfl, hb, hs⟩; clear hb
    refine WL.s (Yr.storeB hs Q0 Q0 Q0 Q5 Q3 Q0 (by exact szf30)) ?_
    clear hs; rintro _ w hs
    refine Qa ?_
    refine WL.next ?_
    refine WC.seq ?_
    refine WL.p Q0 (Yl.loadAB agg30 Q0 hs Q1 Q0 Q0) ?_
    refine Qm ?_
    refine WL.call hs Q0 (Yc.func Q0 fn16) (c_impl_WaitNet _ _ _ (hs.okow (x := x7_n) (F := F7) Q1) (Flat.any hokx7_t) (by have := hx7.1.srv; omega) (by have := hx7.1.cch; omega) (by have := hx7.1.len; simp only [PNet.lg] at this; omega) (by first | assumption | exact Sat.cellm hs (by assumption))) ?_
    have hs0 := hs; clear hs; intro v w hb hR hs; clear hs
    obtain ⟨x9, rfl, hx9, hf9⟩ := hR
    obtain ⟨F9, hs⟩ := hf9.sat hs0 hb; clear hs0 hf9
    have hw9 : x9.now = x7_n.now ∨ x9.now = x7_n.now + x7_t := by
     have e9 := congrArg TNet.now hx9; unfold waitNet at e9; simp only [PNet.lg] at e9; split at e9
     · exact .inr e9
     · exact .inl e9
    have hn7 := hx7.1.now; simp only [PNet.lg] at hn7; have ht7 := hx7.2
    refine WL.r Q0 (Yr.alloc hs zt30) ?_
    clear hs; rintro _ w ⟨b10, rfl, hb, hs⟩; clear hb
    refine WL.s (Yr.storeB hs Q0 Q0 Q0 Q5 Q3 Q0 (by exact szf30)) ?_
    clear hs; rintro _ w hs
    refine WL.next ?_
    refine WC.anyn mixed hs ?_
    clear hs; intro w hs
    refine WA.p (i := 0) Q0 Q6 Q6 Q6 Q0 (hs.only Q2) (fun w hs => Yl.move Q0) ?_
    refine WA.p (i := 1) Q0 Q6 Q6 Q6 Q0 (hs.only Q2) (fun w hs => Yl.fieldAddr fa30_2 Q0) ?_
    refine WA.p (i := 2) Q0 Q6 Q6 Q6 Q0 (hs.only Q2) (fun w hs => Yl.loadB sca28 Q0 hs Q1 Q0) ?_
    refine WA.p (i := 3) Q0 Q6 Q6 Q6 Q0 (hs.only Q2) (fun w hs => Yl.len_sl slu28 Q0) ?_
    refine WA.p (i := 4) Q0 Q6 Q6 Q6 Q0 (hs.only Q2) (fun w hs => Yl.eqi Q0 Q0) ?_
    refine WA.p (i := 5) Q0 Q6 Q6 Q6 Q0 (hs.only Q2) (fun w hs => Yl.move Q0) ?_
    refine WA.split (d := 72) Q0 (fun h4 => ?_) (fun h4 => ?_)
    ·
     replace h4 := of_decide_eq_true h4
     refine WA.pg (i := 6) (d := 72) Q0 Q6 Q6 Q6 Q0 Q0 Q0 (hs.only Q2) (fun w hs => Yl.loadAB agg30 Q0 hs Q1 Q0 Q0) ?_
     refine WA.pg (i := 8) (d := 72) Q0 Q6 Q6 Q6 Q0 Q0 Q0 (hs.only Q2) (fun w hs => Yl.loadAB agg30 Q0 hs Q1 Q0 Q0) ?_
     refine WA.callp2g (i := 7) (d := 72) hs (fun _ hs => hs.only Q2) Q6 Q0 Q0 Q0 Q0 (Yc.func Q0 fn17) (c_impl_CountGuesses _ _ (hs.okow (x := x1_n) (F := F1) Q1)) ?_
     clear hs; intro w hs
     refine WA.callp2g (i := 9) (d := 72) hs (fun _ hs => hs.only Q2) Q6 Q0 Q0 Q0 Q0 (Yc.func Q0 fn18) (c_spec_CountGuesses _ _ (hs.okow (x := x1_n) (F := F1) Q1)) ?_
     clear hs; intro w hs
     refine WA.pg (i := 10) (d := 72) Q0 Q6 Q6 Q6 Q0 Q0 Q0 (hs.only Q2) (fun w hs => Yl.eqi Q0 Q0) ?_
     refine WA.p (i := 11) Q0 Q6 Q6 Q6 Q0 (hs.only Q2) (fun w hs => Yl.pickT Q0 Q0) ?_
     refine WA.p (i := 12) Q0 Q6 Q6 Q6 Q0 (hs.only Q2) (fun w hs => Yl.move Q0) ?_
     refine WA.split (d := 79) Q0 (fun h5 => ?_) (fun h5 => ?_)
     ·
      replace h5 := of_decide_eq_true h5
      refine WA.pg (i := 13) (d := 79) Q0 Q6 Q6 Q6 Q0 Q0 Q0 (hs.only Q2) (fun w hs => Yl.loadAB agg30 Q0 hs Q1 Q0 Q0) ?_
      refine WA.pg (i := 14) (d := 79) Q0 Q6 Q6 Q6 Q0 Q0 Q0 (hs.only Q2) (fun w hs => Yl.loadAB agg30 Q0 hs Q1 Q0 Q0) ?_
      refine WA.pg (i := 15) (d := 79) Q0 Q6 Q6 Q6 Q0 Q0 Q0 (hs.only Q2) (fun w hs => Yl.move Q0) ?_
      refine WA.call2g (i := 16) (d := 79) hs (fun _ hs => hs.only Q2) Q6 Q0 Q0 Q0 Q0 (Yc.func Q0 fn20) (c_spec_WaitNet _ _ _ (hs.okow (x := x7_n) (F := F7) Q1) (Flat.any hokx7_t) (by have := hx7.1.srv; omega) (by have := hx7.1.cch; omega) (by have := hx7.1.len; simp only [PNet.lg] at this; omega)) ?_
      have hs0 := hs; clear hs; intro v w hb hR hs; clear hs
      obtain ⟨x11, rfl, hx11, hf11⟩ := hR
      obtain ⟨F11, hs⟩ := hf11.sat hs0 hb; clear hs0 hf11
      refine WA.callp2g (i := 17) (d := 79) hs (fun _ hs => hs.only Q2) Q6 Q0 Q0 Q0 Q0 (Yc.func Q0 fn19) (c_impl_EqualNets _ _ _ (hs.okow (x := x9) (F := F9) Q1) (hs.okow (x := x11) (F := F11) Q1)) ?_
      clear hs; intro w hs
      refine WA.p (i := 18) Q0 Q6 Q6 Q6 Q0 (hs.only Q2) (fun w hs => Yl.pickT Q0 Q0) ?_
      refine WA.p (i := 19) Q0 Q6 Q6 Q6 Q0 (hs.only Q2) (fun w hs => Yl.move Q0) ?_
      refine WA.split (d := 86) Q0 (fun h6 => ?_) (fun h6 => ?_)
      ·
       replace h6 := of_decide_eq_true h6
       refine WA.pg (i := 20) (d := 86) Q0 Q6 Q6 Q6 Q0 Q0 Q0 (hs.only Q2) (fun w hs => Yl.loadAB agg30 Q0 hs Q1 Q0 Q0) ?_
       refine WA.pg (i := 22) (d := 86) Q0 Q6 Q6 Q6 Q0 Q0 Q0 (hs.only Q2) (fun w hs => Yl.loadAB agg30 Q0 hs Q1 Q0 Q0) ?_
       refine WA.callp2g (i := 21) (d := 86) hs (fun _ hs => hs.only Q2) Q6 Q0 Q0 Q0 Q0 (Yc.func Q0 fn21) (c_impl_IsNet _ _ (hs.okow (x := x7_n) (F := F7) Q1) (by have := hx7.1.srv; omega) (by have := hx7.1.cch; omega) (by have := hx7.1.len; simp only [PNet.lg] at this; omega) (by first | assumption | exact Sat.cellm hs (by assumption))) ?_
       clear hs; intro w hs
       refine WA.callp2g (i := 23) (d := 86) hs (fun _ hs => hs.only Q2) Q6 Q0 Q0 Q0 Q0 (Yc.func Q0 fn22) (c_spec_IsNet _ _ (hs.okow (x := x7_n) (F := F7) Q1) (by have := hx7.1.srv; omega) (by have := hx7.1.cch; omega) (by have := hx7.1.len; simp only [PNet.lg] at this; omega)) ?_
       clear hs; intro w hs
       refine WA.pg (i := 24) (d := 86) Q0 Q6 Q6 Q6 Q0 Q0 Q0 (hs.only Q2) (fun w hs => Yl.eqb bool4 Q0 Q0) ?_
       refine WA.p (i := 25) Q0 Q6 Q6 Q6 Q0 (hs.only Q2) (fun w hs => Yl.pickT Q0 Q0) ?_
       refine WA.p (i := 26) Q0 Q6 Q6 Q6 Q0 (hs.only Q2) (fun w hs => Yl.move Q0) ?_
       refine WA.split (d := 93) Q0 (fun h7 => ?_) (fun h7 => ?_)
       ·
        replace h7 := beq_true h7
        refine WA.pg (i := 27) (d := 93) Q0 Q6 Q6 Q6 Q0 Q0 Q0 (hs.only Q2) (fun w hs => Yl.fieldAddr fa30_3 Q0) ?_
        refine WA.pg (i := 28) (d := 93) Q0 Q6 Q6 Q6 Q0 Q0 Q0 (hs.only Q2) (fun w hs => Yl.loadB sca3 Q0 hs Q1 Q0) ?_
        refine WA.pg (i := 29) (d := 93) Q0 Q6 Q6 Q6 Q0 Q0 Q0 (hs.only Q2) (fun w hs => Yl.fieldAddr fa30_3 Q0) ?_
        refine WA.pg (i := 30) (d := 93) Q0 Q6 Q6 Q6 Q0 Q0 Q0 (hs.only Q2) (fun w hs => Yl.loadB sca3 Q0 hs Q1 Q0) ?_
        refine WA.pg (i := 31) (d := 93) Q0 Q6 Q6 Q6 Q0 Q0 Q0 (hs.only Q2) (fun w hs => Yl.eqi Q0 Q0) ?_
        refine WA.pg (i := 32) (d := 93) Q0 Q6 Q6 Q6 Q0 Q0 Q0 (hs.only Q2) (fun w hs => Yl.move Q0) ?_
        refine WA.split (d := 99) Q0 (fun h8 => ?_) (fun h8 => ?_)
        ·
         replace h8 := of_decide_eq_true h8
         refine WA.skip (i := 33) (d := 99) Q0 Q6 Q6 Q6 Q0 Q0 Q0 Q0 (hs.only Q2) ?_
         refine WA.skip (i := 34) (d := 99) Q0 Q6 Q6 Q6 Q0 Q0 Q0 Q0 (hs.only Q2) ?_
         refine WA.skip (i := 35) (d := 99) Q0 Q6 Q6 Q6 Q0 Q0 Q0 Q0 (hs.only Q2) ?_
         refine WA.skip (i := 36) (d := 99) Q0 Q6 Q6 Q6 Q0 Q0 Q0 Q0 (hs.only Q2) ?_
         refine WA.skip (i := 37) (d := 99) Q0 Q6 Q6 Q6 Q0 Q0 Q0 Q0 (hs.only Q2) ?_
         refine WA.skip (i := 38) (d := 99) Q0 Q6 Q6 Q6 Q0 Q0 Q0 Q0 (hs.only Q2) ?_
         refine WA.skip (i := 39) (d := 99) Q0 Q6 Q6 Q6 Q0 Q0 Q0 Q0 (hs.only Q2) ?_
         refine WA.pg (i := 40) (d := 93) Q0 Q6 Q6 Q6 Q0 Q0 Q0 (hs.only Q2) (fun w hs => Yl.pickT Q0 Q0) ?_
         refine WA.p (i := 41) Q0 Q6 Q6 Q6 Q0 (hs.only Q2) (fun w hs => Yl.pickT Q0 Q0) ?_
         refine WA.p (i := 42) Q0 Q6 Q6 Q6 Q0 (hs.only Q2) (fun w hs => Yl.assign Q0) ?_
         refine WA.donen Q6 ?_
         refine WC.ret ?_
         refine fin1' rfl Q0 ?_
         refine RetP.mk hs ?_
         first
          | rfl
          | (rcases hw9 with e9 | e9 <;> simp_all; done)
          | (clear hs; simp_all; done)
          | (clear hs; simp_all; omega)
        ·
         replace h8 := of_decide_eq_false h8
         refine WA.pg (i := 33) (d := 99) Q0 Q6 Q6 Q6 Q0 Q0 Q0 (hs.only Q2) (fun w hs => Yl.fieldAddr fa30_3 Q0) ?_
         refine WA.pg (i := 34) (d := 99) Q0 Q6 Q6 Q6 Q0 Q0 Q0 (hs.only Q2) (fun w hs => Yl.loadB sca3 Q0 hs Q1 Q0) ?_
         refine WA.pg (i := 35) (d := 99) Q0 Q6 Q6 Q6 Q0 Q0 Q0 (hs.only Q2) (fun w hs => Yl.fieldAddr fa30_3 Q0) ?_
         refine WA.pg (i := 36) (d := 99) Q0 Q6 Q6 Q6 Q0 Q0 Q0 (hs.only Q2) (fun w hs => Yl.loadB sca3 Q0 hs Q1 Q0) ?_
         refine WA.pg (i := 37) (d := 99) Q0 Q6 Q6 Q6 Q0 Q0 Q0 (hs.only Q2) (fun w hs => Yl.move Q0) ?_
         refine WA.pg (i := 38) (d := 99) Q0 Q6 Q6 Q6 Q0 Q0 Q0 (hs.only Q2) (fun w hs => Yl.add Q0 Q0 Q7) ?_
         refine WA.pg (i := 39) (d := 99) Q0 Q6 Q6 Q6 Q0 Q0 Q0 (hs.only Q2) (fun w hs => Yl.eqi Q0 Q0) ?_
         refine WA.pg (i := 40) (d := 93) Q0 Q6 Q6 Q6 Q0 Q0 Q0 (hs.only Q2) (fun w hs => Yl.pickF Q0 Q0) ?_
         refine WA.p (i := 41) Q0 Q6 Q6 Q6 Q0 (hs.only Q2) (fun w hs => Yl.pickT Q0 Q0) ?_
         refine WA.p (i := 42) Q0 Q6 Q6 Q6 Q0 (hs.only Q2) (fun w hs => Yl.assign Q0) ?_
         refine WA.donen Q6 ?_
         refine WC.ret ?_
         refine fin1' rfl Q0 ?_
         refine RetP.mk hs ?_
         first
          | rfl
          | (rcases hw9 with e9 | e9 <;> simp_all; done)
          | (clear hs; simp_all; done)
          | (clear hs; simp_all; omega)
       ·
        replace h7 := beq_false h7
        exact absurd rfl h7
      ·
       replace h6 := of_decide_eq_false h6
       exact absurd (hx9.trans hx11.symm) h6
     ·
      replace h5 := of_decide_eq_false h5
      exact absurd rfl h5
    ·
     replace h4 := of_decide_eq_false h4
     exfalso
     omega

end Go.Sw
