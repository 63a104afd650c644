/- Walks: what each function of the program returns, for every input. Printed by gen.py. -/
import Derived.Test.YtbbcmlpmpgjhlaaDoorW0
set_option linter.all false
namespace Go.Sw
open Go Go.RowKit Go.Proofs

theorem c_impl_IsPolicy (p : PPolicy) (w : World) (h_p : Ph.ok w p)  : Calls Tryd.prog 11 [.agg #[Bo p.set, Sl.v p.scripts, Sl.v p.styles, Sl.v p.images, S p.nonce]].toArray w (RetP w (Bo (p.lg.is))) := by
 refine enterN 50 Tryd.func11 rfl rfl rfl ?_
 have hs := Sat.start w
 refine WC.seq ?_
 refine WL.r Q0 (Yr.box hs Q0 Q0) ?_
 clear hs; rintro _ w ⟨b1, rfl, hb, hs⟩; clear hb
 refine Qa ?_
 refine WL.next ?_
 refine WC.seq' ?_
 refine WC.seq ?_
 refine WL.p Q0 (Yl.fieldAddr fa26_0 Q0) ?_
 refine WL.p Q0 (Yl.loadB sca4 Q0 hs Q1 Q0) ?_
 refine WL.p Q0 (Yl.not Q0) ?_
 refine WL.next ?_
 refine WC.condS Q0 (fun h1 => ?_) (fun h1 => ?_)
 ·
  replace h1 := not_eq_true h1
  refine WC.seq ?_
  refine WL.p Q0 (Yl.fieldAddr fa26_1 Q0) ?_
  refine WL.p Q0 (Yl.loadB sca24 Q0 hs Q1 Q0) ?_
  refine WL.p Q0 (Yl.len_sl slu24 Q0) ?_
  refine WL.p Q0 (Yl.eqi Q0 Q0) ?_
  refine Qm ?_
  refine WL.split (d := 10) Q0 (fun h2 => ?_) (fun h2 => ?_)
  ·
   replace h2 := of_decide_eq_true h2
   refine WL.run (d := 10) Q0 Q0 ?_
   refine WL.p Q0 (Yl.fieldAddr fa26_2 Q0) ?_
   refine WL.run (d := 10) Q0 Q0 ?_
   refine WL.p Q0 (Yl.loadB sca24 Q0 hs Q1 Q0) ?_
   refine WL.run (d := 10) Q0 Q0 ?_
   refine WL.p Q0 (Yl.len_sl slu24 Q0) ?_
   refine WL.run (d := 10) Q0 Q0 ?_
   refine WL.p Q0 (Yl.eqi Q0 Q0) ?_
   refine WL.p Q0 (Yl.pickT Q0 Q0) ?_
   refine Qm ?_
   refine WL.split (d := 16) Q0 (fun h3 => ?_) (fun h3 => ?_)
   ·
    replace h3 := of_decide_eq_true h3
    refine WL.run (d := 16) Q0 Q0 ?_
    refine WL.p Q0 (Yl.fieldAddr fa26_3 Q0) ?_
    refine WL.run (d := 16) Q0 Q0 ?_
    refine WL.p Q0 (Yl.loadB sca24 Q0 hs Q1 Q0) ?_
    refine WL.run (d := 16) Q0 Q0 ?_
    refine WL.p Q0 (Yl.len_sl slu24 Q0) ?_
    refine WL.run (d := 16) Q0 Q0 ?_
    refine WL.p Q0 (Yl.eqi Q0 Q0) ?_
    refine WL.p Q0 (Yl.pickT Q0 Q0) ?_
    refine Qm ?_
    refine WL.split (d := 22) Q0 (fun h4 => ?_) (fun h4 => ?_)
    ·
     replace h4 := of_decide_eq_true h4
     refine WL.run (d := 22) Q0 Q0 ?_
     refine WL.p Q0 (Yl.fieldAddr fa26_4 Q0) ?_
     refine WL.run (d := 22) Q0 Q0 ?_
     refine WL.p Q0 (Yl.loadB sca9 Q0 hs Q1 Q0) ?_
     refine WL.run (d := 22) Q0 Q0 ?_
     refine WL.p Q0 (Yl.eqs Q0 Q0) ?_
     refine WL.p Q0 (Yl.pickT Q0 Q0) ?_
     refine Qa ?_
     refine WL.next ?_
     refine WC.ret ?_
     refine At.thenret ?_
     refine fin1' rfl Q0 ?_
     refine RetP.mk hs ?_
     simp_all [TPolicy.is]
    ·
     replace h4 := of_decide_eq_false h4
     refine WL.skip (d := 22) Q0 Q0 Q0 Q0 ?_
     refine WL.skip (d := 22) Q0 Q0 Q0 Q0 ?_
     refine WL.skip (d := 22) Q0 Q0 Q0 Q0 ?_
     refine WL.p Q0 (Yl.pickF Q0 Q0) ?_
     refine Qa ?_
     refine WL.next ?_
     refine WC.ret ?_
     refine At.thenret ?_
     refine fin1' rfl Q0 ?_
     refine RetP.mk hs ?_
     simp_all [TPolicy.is]
   ·
    replace h3 := of_decide_eq_false h3
    refine WL.skip (d := 16) Q0 Q0 Q0 Q0 ?_
    refine WL.skip (d := 16) Q0 Q0 Q0 Q0 ?_
    refine WL.skip (d := 16) Q0 Q0 Q0 Q0 ?_
    refine WL.skip (d := 16) Q0 Q0 Q0 Q0 ?_
    refine WL.p Q0 (Yl.pickF Q0 Q0) ?_
    refine Qm ?_
    refine WL.skip (d := 22) Q0 Q0 Q0 Q0 ?_
    refine WL.skip (d := 22) Q0 Q0 Q0 Q0 ?_
    refine WL.skip (d := 22) Q0 Q0 Q0 Q0 ?_
    refine WL.p Q0 (Yl.pickF Q0 Q0) ?_
    refine Qa ?_
    refine WL.next ?_
    refine WC.ret ?_
    refine At.thenret ?_
    refine fin1' rfl Q0 ?_
    refine RetP.mk hs ?_
    simp_all [TPolicy.is]
  ·
   replace h2 := of_decide_eq_false h2
   refine WL.skip (d := 10) Q0 Q0 Q0 Q0 ?_
   refine WL.skip (d := 10) Q0 Q0 Q0 Q0 ?_
   refine WL.skip (d := 10) Q0 Q0 Q0 Q0 ?_
   refine WL.skip (d := 10) Q0 Q0 Q0 Q0 ?_
   refine WL.p Q0 (Yl.pickF Q0 Q0) ?_
   refine Qm ?_
   refine WL.skip (d := 16) Q0 Q0 Q0 Q0 ?_
   refine WL.skip (d := 16) Q0 Q0 Q0 Q0 ?_
   refine WL.skip (d := 16) Q0 Q0 Q0 Q0 ?_
   refine WL.skip (d := 16) Q0 Q0 Q0 Q0 ?_
   refine WL.p Q0 (Yl.pickF Q0 Q0) ?_
   refine Qm ?_
   refine WL.skip (d := 22) Q0 Q0 Q0 Q0 ?_
   refine WL.skip (d := 22) Q0 Q0 Q0 Q0 ?_
   refine WL.skip (d := 22) Q0 Q0 Q0 Q0 ?_
   refine WL.p Q0 (Yl.pickF Q0 Q0) ?_
   refine Qa ?_
   refine WL.next ?_
   refine WC.ret ?_
   refine At.thenret ?_
   refine fin1' rfl Q0 ?_
   refine RetP.mk hs ?_
   simp_all [TPolicy.is]
 ·
  replace h1 := not_eq_false h1
  refine WC.skipn ?_
  refine WC.seq ?_
  refine WL.p Q0 (Yl.fieldAddr fa26_1 Q0) ?_
  refine WL.p Q0 (Yl.loadB sca24 Q0 hs Q1 Q0) ?_
  refine WL.callp hs Q0 (Yc.func Q0 fn54) (c_impl_areHosts _ _ (Ph.old h_p.scripts hs)) ?_
  clear hs; intro w hs
  refine Qm ?_
  refine WL.split (d := 30) Q0 (fun h2 => ?_) (fun h2 => ?_)
  ·
   refine WL.run (d := 30) Q0 Q0 ?_
   refine WL.p Q0 (Yl.fieldAddr fa26_2 Q0) ?_
   refine WL.run (d := 30) Q0 Q0 ?_
   refine WL.p Q0 (Yl.loadB sca24 Q0 hs Q1 Q0) ?_
   refine WL.run (d := 30) Q0 Q0 ?_
   refine WL.callp hs Q0 (Yc.func Q0 fn54) (c_impl_areHosts _ _ (Ph.old h_p.styles hs)) ?_
   clear hs; intro w hs
   refine WL.p Q0 (Yl.pickT Q0 Q0) ?_
   refine Qm ?_
   refine WL.split (d := 35) Q0 (fun h3 => ?_) (fun h3 => ?_)
   ·
    refine WL.run (d := 35) Q0 Q0 ?_
    refine WL.p Q0 (Yl.fieldAddr fa26_3 Q0) ?_
    refine WL.run (d := 35) Q0 Q0 ?_
    refine WL.p Q0 (Yl.loadB sca24 Q0 hs Q1 Q0) ?_
    refine WL.run (d := 35) Q0 Q0 ?_
    refine WL.callp hs Q0 (Yc.func Q0 fn54) (c_impl_areHosts _ _ (Ph.old h_p.images hs)) ?_
    clear hs; intro w hs
    refine WL.p Q0 (Yl.pickT Q0 Q0) ?_
    refine Qm ?_
    refine WL.split (d := 40) Q0 (fun h4 => ?_) (fun h4 => ?_)
    ·
     refine WL.run (d := 40) Q0 Q0 ?_
     refine WL.p Q0 (Yl.fieldAddr fa26_4 Q0) ?_
     refine WL.run (d := 40) Q0 Q0 ?_
     refine WL.p Q0 (Yl.loadB sca9 Q0 hs Q1 Q0) ?_
     refine WL.run (d := 40) Q0 Q0 ?_
     refine WL.p Q0 (Yl.eqs Q0 Q0) ?_
     refine WL.run (d := 40) Q0 Q0 ?_
     refine Qm ?_
     refine WL.split (d := 44) Q0 (fun h5 => ?_) (fun h5 => ?_)
     ·
      replace h5 := of_decide_eq_true h5
      refine WL.skip (d := 44) Q0 Q0 Q0 Q0 ?_
      refine WL.skip (d := 44) Q0 Q0 Q0 Q0 ?_
      refine WL.skip (d := 44) Q0 Q0 Q0 Q0 ?_
      refine WL.run (d := 40) Q0 Q0 ?_
      refine WL.p Q0 (Yl.pickT Q0 Q0) ?_
      refine WL.p Q0 (Yl.pickT Q0 Q0) ?_
      refine Qa ?_
      refine WL.next ?_
      refine WC.ret ?_
      refine fin1' rfl Q0 ?_
      refine RetP.mk hs ?_
      simp_all [TPolicy.is]
     ·
      replace h5 := of_decide_eq_false h5
      refine WL.run (d := 44) Q0 Q0 ?_
      refine WL.p Q0 (Yl.fieldAddr fa26_4 Q0) ?_
      refine WL.run (d := 44) Q0 Q0 ?_
      refine WL.p Q0 (Yl.loadB sca9 Q0 hs Q1 Q0) ?_
      refine WL.run (d := 44) Q0 Q0 ?_
      refine WL.callp hs Q0 (Yc.func Q0 fn55) (c_impl_IsValue _ _ (Ph.old h_p.nonce hs)) ?_
      clear hs; intro w hs
      refine WL.run (d := 40) Q0 Q0 ?_
      refine WL.p Q0 (Yl.pickF Q0 Q0) ?_
      refine WL.p Q0 (Yl.pickT Q0 Q0) ?_
      refine Qa ?_
      refine WL.next ?_
      refine WC.ret ?_
      refine fin1' rfl Q0 ?_
      refine RetP.mk hs ?_
      simp_all [TPolicy.is]
    ·
     refine WL.skip (d := 40) Q0 Q0 Q0 Q0 ?_
     refine WL.skip (d := 40) Q0 Q0 Q0 Q0 ?_
     refine WL.skip (d := 40) Q0 Q0 Q0 Q0 ?_
     refine WL.skip (d := 40) Q0 Q0 Q0 Q0 ?_
     refine WL.skipU (d := 44) Q0 Q0 Q0 ?_
     refine WL.skipU (d := 44) Q0 Q0 Q0 ?_
     refine WL.skipU (d := 44) Q0 Q0 Q0 ?_
     refine WL.skip (d := 40) Q0 Q0 Q0 Q0 ?_
     refine WL.p Q0 (Yl.pickF Q0 Q0) ?_
     refine Qa ?_
     refine WL.next ?_
     refine WC.ret ?_
     refine fin1' rfl Q0 ?_
     refine RetP.mk hs ?_
     simp_all [TPolicy.is]
   ·
    refine WL.skip (d := 35) Q0 Q0 Q0 Q0 ?_
    refine WL.skip (d := 35) Q0 Q0 Q0 Q0 ?_
    refine WL.skip (d := 35) Q0 Q0 Q0 Q0 ?_
    refine WL.p Q0 (Yl.pickF Q0 Q0) ?_
    refine Qm ?_
    refine WL.skip (d := 40) Q0 Q0 Q0 Q0 ?_
    refine WL.skip (d := 40) Q0 Q0 Q0 Q0 ?_
    refine WL.skip (d := 40) Q0 Q0 Q0 Q0 ?_
    refine WL.skip (d := 40) Q0 Q0 Q0 Q0 ?_
    refine WL.skipU (d := 44) Q0 Q0 Q0 ?_
    refine WL.skipU (d := 44) Q0 Q0 Q0 ?_
    refine WL.skipU (d := 44) Q0 Q0 Q0 ?_
    refine WL.skip (d := 40) Q0 Q0 Q0 Q0 ?_
    refine WL.p Q0 (Yl.pickF Q0 Q0) ?_
    refine Qa ?_
    refine WL.next ?_
    refine WC.ret ?_
    refine fin1' rfl Q0 ?_
    refine RetP.mk hs ?_
    simp_all [TPolicy.is]
  ·
   refine WL.skip (d := 30) Q0 Q0 Q0 Q0 ?_
   refine WL.skip (d := 30) Q0 Q0 Q0 Q0 ?_
   refine WL.skip (d := 30) Q0 Q0 Q0 Q0 ?_
   refine WL.p Q0 (Yl.pickF Q0 Q0) ?_
   refine Qm ?_
   refine WL.skip (d := 35) Q0 Q0 Q0 Q0 ?_
   refine WL.skip (d := 35) Q0 Q0 Q0 Q0 ?_
   refine WL.skip (d := 35) Q0 Q0 Q0 Q0 ?_
   refine WL.p Q0 (Yl.pickF Q0 Q0) ?_
   refine Qm ?_
   refine WL.skip (d := 40) Q0 Q0 Q0 Q0 ?_
   refine WL.skip (d := 40) Q0 Q0 Q0 Q0 ?_
   refine WL.skip (d := 40) Q0 Q0 Q0 Q0 ?_
   refine WL.skip (d := 40) Q0 Q0 Q0 Q0 ?_
   refine WL.skipU (d := 44) Q0 Q0 Q0 ?_
   refine WL.skipU (d := 44) Q0 Q0 Q0 ?_
   refine WL.skipU (d := 44) Q0 Q0 Q0 ?_
   refine WL.skip (d := 40) Q0 Q0 Q0 Q0 ?_
   refine WL.p Q0 (Yl.pickF Q0 Q0) ?_
   refine Qa ?_
   refine WL.next ?_
   refine WC.ret ?_
   refine fin1' rfl Q0 ?_
   refine RetP.mk hs ?_
   simp_all [TPolicy.is]

theorem c_strings_Join (elems : (Sl Str)) (sep : Str) (w : World) (h_elems : Ph.ok w elems) (h1 : elems.l.length ≤ 140737488355328) (h2 : (joinS elems.l sep).length ≤ 140737488355328) : Calls Tryd.prog 53 [Sl.v elems, S sep].toArray w (RetP w (S (joinS elems.l sep))) := by
 exact join_calls Tryd.strings_Join_none Tryd.strings_Join elems sep w h_elems h1 h2

theorem c_impl_FormatPolicy (p : PPolicy) (w : World) (h_p : Ph.ok w p) (hb : p.lg.size ≤ 2097152) : Calls Tryd.prog 10 [.agg #[Bo p.set, Sl.v p.scripts, Sl.v p.styles, Sl.v p.images, S p.nonce]].toArray w (RetP w (S (fmtPolicy p.lg))) := by
 refine enterN 40 Tryd.func10 rfl rfl rfl ?_
 have hs := Sat.start w
 refine WC.seq ?_
 refine WL.r Q0 (Yr.box hs Q0 Q0) ?_
 clear hs; rintro _ w ⟨b1, rfl, hb, hs⟩; clear hb
 refine Qa ?_
 refine WL.next ?_
 refine WC.seq' ?_
 refine WC.seq ?_
 refine WL.p Q0 (Yl.loadAB agg26 Q0 hs Q1 Q0 Q0) ?_
 refine WL.callp hs Q0 (Yc.func Q0 fn11) (c_impl_IsPolicy _ _ (Ph.old h_p hs)) ?_
 clear hs; intro w hs
 refine WL.p Q0 (Yl.not Q0) ?_
 refine Qm ?_
 refine WL.split (d := 7) Q0 (fun h1 => ?_) (fun h1 => ?_)
 ·
  replace h1 := not_eq_true h1
  refine WL.skip (d := 7) Q0 Q0 Q0 Q0 ?_
  refine WL.skip (d := 7) Q0 Q0 Q0 Q0 ?_
  refine WL.skip (d := 7) Q0 Q0 Q0 Q0 ?_
  refine WL.p Q0 (Yl.pickT Q0 Q0) ?_
  refine WL.next ?_
  refine WC.condT Q0 ?_
  refine WC.seq ?_
  refine Qa ?_
  refine WL.next ?_
  refine WC.ret ?_
  refine At.thenret ?_
  refine fin1' rfl Q0 ?_
  refine RetP.mk hs ?_
  first
   | (simp [fmtPolicy, h1]; done)
   | (simp [fmtPolicy, h2]; done)
   | (simp [fmtPolicy, h1, h2, h3, wordsText]; done)
 ·
  replace h1 := not_eq_false h1
  refine WL.run (d := 7) Q0 Q0 ?_
  refine WL.p Q0 (Yl.fieldAddr fa26_0 Q0) ?_
  refine WL.run (d := 7) Q0 Q0 ?_
  refine WL.p Q0 (Yl.loadB sca4 Q0 hs Q1 Q0) ?_
  refine WL.run (d := 7) Q0 Q0 ?_
  refine WL.p Q0 (Yl.not Q0) ?_
  refine WL.p Q0 (Yl.pickF Q0 Q0) ?_
  refine WL.next ?_
  refine WC.condS Q0 (fun h2 => ?_) (fun h2 => ?_)
  ·
   replace h2 := not_eq_true h2
   refine WC.seq ?_
   refine Qa ?_
   refine WL.next ?_
   refine WC.ret ?_
   refine At.thenret ?_
   refine fin1' rfl Q0 ?_
   refine RetP.mk hs ?_
   first
    | (simp [fmtPolicy, h1]; done)
    | (simp [fmtPolicy, h2]; done)
    | (simp [fmtPolicy, h1, h2, h3, wordsText]; done)
  ·
   replace h2 := not_eq_false h2
   refine WC.skipn ?_
   refine WC.anyn mixed hs ?_
   clear hs; intro w hs
   refine WA.p (i := 1) Q0 Q6 Q6 Q6 Q0 (hs.only Q2) (fun w hs => Yl.fieldAddr fa26_1 Q0) ?_
   refine WA.p (i := 2) Q0 Q6 Q6 Q6 Q0 (hs.only Q2) (fun w hs => Yl.loadB sca24 Q0 hs Q1 Q0) ?_
   refine WA.p (i := 7) Q0 Q6 Q6 Q6 Q0 (hs.only Q2) (fun w hs => Yl.fieldAddr fa26_2 Q0) ?_
   refine WA.p (i := 8) Q0 Q6 Q6 Q6 Q0 (hs.only Q2) (fun w hs => Yl.loadB sca24 Q0 hs Q1 Q0) ?_
   refine WA.p (i := 14) Q0 Q6 Q6 Q6 Q0 (hs.only Q2) (fun w hs => Yl.fieldAddr fa26_3 Q0) ?_
   refine WA.p (i := 15) Q0 Q6 Q6 Q6 Q0 (hs.only Q2) (fun w hs => Yl.loadB sca24 Q0 hs Q1 Q0) ?_
   refine WA.dag' [(⟨0, 12, [], (fun _ v cs => ∃ b, v = .slice (some ⟨b, 0, none⟩) 1 1 ∧ cs = [box b 9 (([S (([115, 99, 114, 105, 112, 116] : Str))]))])⟩, []), (⟨3, 15, [], (fun _ v cs => ∃ (x : Sl Str) (F : List Nat), v = x.v ∧ cs = [ow x F] ∧ x.l = [([115, 99, 114, 105, 112, 116] : Str)] ++ p.scripts.l)⟩, [(0, true)]), (⟨4, 16, [], (fun _ v cs => v = S (joinS ([([115, 99, 114, 105, 112, 116] : Str)] ++ p.scripts.l) ([32] : Str)) ∧ cs = [])⟩, [(1, false)]), (⟨5, 17, [], (fun _ v cs => v = S (((joinS ([([115, 99, 114, 105, 112, 116] : Str)] ++ p.scripts.l) ([32] : Str)) ++ ([59] : Str))) ∧ cs = [])⟩, [(2, false)]), (⟨6, 18, [], (fun _ v cs => ∃ b, v = .slice (some ⟨b, 0, none⟩) 1 1 ∧ cs = [box b 9 (([S (([115, 116, 121, 108, 101] : Str))]))])⟩, []), (⟨9, 21, [], (fun _ v cs => ∃ (x : Sl Str) (F : List Nat), v = x.v ∧ cs = [ow x F] ∧ x.l = [([115, 116, 121, 108, 101] : Str)] ++ p.styles.l)⟩, [(2, false), (4, true)]), (⟨10, 22, [], (fun _ v cs => v = S (joinS ([([115, 116, 121, 108, 101] : Str)] ++ p.styles.l) ([32] : Str)) ∧ cs = [])⟩, [(5, false)]), (⟨11, 23, [], (fun _ v cs => v = S ((((joinS ([([115, 99, 114, 105, 112, 116] : Str)] ++ p.scripts.l) ([32] : Str)) ++ ([59] : Str)) ++ (joinS ([([115, 116, 121, 108, 101] : Str)] ++ p.styles.l) ([32] : Str)))) ∧ cs = [])⟩, [(3, false), (6, false)]), (⟨12, 24, [], (fun _ v cs => v = S (((((joinS ([([115, 99, 114, 105, 112, 116] : Str)] ++ p.scripts.l) ([32] : Str)) ++ ([59] : Str)) ++ (joinS ([([115, 116, 121, 108, 101] : Str)] ++ p.styles.l) ([32] : Str))) ++ ([59] : Str))) ∧ cs = [])⟩, [(7, false)]), (⟨13, 25, [], (fun _ v cs => ∃ b, v = .slice (some ⟨b, 0, none⟩) 1 1 ∧ cs = [box b 9 (([S (([105, 109, 103] : Str))]))])⟩, []), (⟨16, 28, [], (fun _ v cs => ∃ (x : Sl Str) (F : List Nat), v = x.v ∧ cs = [ow x F] ∧ x.l = [([105, 109, 103] : Str)] ++ p.images.l)⟩, [(6, false), (9, true)]), (⟨17, 29, [], (fun _ v cs => v = S (joinS ([([105, 109, 103] : Str)] ++ p.images.l) ([32] : Str)) ∧ cs = [])⟩, [(10, false)])] [true, false, false, false, true, false, false, false, false, true, false, false] [(0, _), (1, _), (2, _), (4, _), (5, _), (6, _), (7, _), (8, _), (9, _), (10, _), (11, _), (13, _), (14, _), (19, _), (20, _), (26, _), (27, _)] ⟨by rfl, by rfl, by rfl, by rfl, by rfl, by rfl, by rfl, by rfl, by rfl, by rfl, by rfl, by rfl, by rfl, by rfl, by rfl, by rfl, by rfl, trivial⟩ Q0 Q6 Q6 Q6 Q6 Q6 Q6 Q6 Q6 (fun _ hs => hs.only Q2) hs (fuel := 2) ⟨⟨local_const, ?_⟩, ⟨local_const, ?_⟩, ⟨local_const, ?_⟩, ⟨local_const, ?_⟩, ⟨local_const, ?_⟩, ⟨local_const, ?_⟩, ⟨local_const, ?_⟩, ⟨local_const, ?_⟩, ⟨local_const, ?_⟩, ⟨local_const, ?_⟩, ⟨local_const, ?_⟩, ⟨local_const, ?_⟩, trivial⟩ ?_
   ·
    clear hs
    intro w R hs
    simp only [List.cons_append, List.nil_append] at hs
    exact Gives.rr' Q0 (Yr.buildSlice hs sll24 Q0 Q0 Q0 Q4 Q0) (fun _ _ ⟨b, hv, _, hs1⟩ => ⟨[box b 9 (([S (([115, 99, 114, 105, 112, 116] : Str))]))], ⟨b, hv, rfl⟩, hs1⟩)
   ·
    clear hs
    rintro _ _ ⟨b2, rfl, rfl⟩
    intro w R hs
    simp only [List.cons_append, List.nil_append] at hs
    replace hs := (Sat.boxow (l := ([([115, 99, 114, 105, 112, 116] : Str)] : List Str)) (hs.sel (D := [box b2 _ _]) Q2) rfl rfl (by simp [maxLen]) (ownL_mk_flat (by intro x hx; obtain rfl := List.mem_singleton.1 hx; show WfS _; unfold WfS; simp)))
    refine Gives.rr' Q0 (Yr.appendS (s := (⟨[([115, 99, 114, 105, 112, 116] : Str)], some ⟨b2, 0, none⟩, _⟩ : Sl Str)) (F := [b2]) (r := p.scripts) hs elt24 Q2 Q0 Q0 (Ph.old h_p.scripts hs) (by simp only [TPolicy.size, PPolicy.lg, strsz, lsz] at hb; simp; unfold maxLen; omega) (by simp only [TPolicy.size, PPolicy.lg, strsz, lsz] at hb; simp; omega)) ?_
    rintro _ w1 ⟨s4, F4, rfl, hl4, hs⟩
    exact ⟨[ow s4 F4], ⟨s4, F4, rfl, rfl, by first | exact hl4 | (simp only [List.append_nil] at hl4 ⊢; exact hl4)⟩, hs⟩
   ·
    clear hs
    rintro _ _ ⟨x5, F5, rfl, rfl, hx5⟩
    intro w R hs
    simp only [List.cons_append, List.nil_append] at hs
    refine Gives.c' Q0 (Yc.func Q0 fn53) (c_strings_Join _ _ _ (hs.okow (x := x5) (F := F5) Q1) (by simp only [hx5]; first | (simp only [TPolicy.size, PPolicy.lg, strsz, lsz] at hb; simp; omega) | (simp only [List.cons_append, List.nil_append]; refine Nat.le_trans (wordsText_len _ _) ?_; simp only [TPolicy.size, PPolicy.lg, List.length_cons, List.length_nil] at hb ⊢; omega)) (by simp only [hx5]; first | (simp only [TPolicy.size, PPolicy.lg, strsz, lsz] at hb; simp; omega) | (simp only [List.cons_append, List.nil_append]; refine Nat.le_trans (wordsText_len _ _) ?_; simp only [TPolicy.size, PPolicy.lg, List.length_cons, List.length_nil] at hb ⊢; omega))) ?_
    rintro _ w1 ⟨rfl, hb⟩
    exact ⟨_, rfl, [], ⟨(by first | rfl | (simp only [hx5])), rfl⟩, hs.ext hb⟩
   ·
    clear hs
    rintro _ _ ⟨rfl, rfl⟩
    intro w R hs
    simp only [List.cons_append, List.nil_append] at hs
    exact Gives.p' Q0 (Yl.cat Q0 Q0 (by have j1 := wordsText_len [115, 99, 114, 105, 112, 116] p.scripts.l; have j2 := wordsText_len [115, 116, 121, 108, 101] p.styles.l; have j3 := wordsText_len [105, 109, 103] p.images.l; simp only [wordsText, List.cons_append, List.nil_append, List.length_append, List.length_cons, List.length_nil, TPolicy.size, PPolicy.lg] at j1 j2 j3 hb ⊢; omega)) ⟨[], ⟨rfl, rfl⟩, hs⟩
   ·
    clear hs
    intro w R hs
    simp only [List.cons_append, List.nil_append] at hs
    exact Gives.rr' Q0 (Yr.buildSlice hs sll24 Q0 Q0 Q0 Q4 Q0) (fun _ _ ⟨b, hv, _, hs1⟩ => ⟨[box b 9 (([S (([115, 116, 121, 108, 101] : Str))]))], ⟨b, hv, rfl⟩, hs1⟩)
   ·
    clear hs
    rintro _ _ ⟨rfl, rfl⟩
    rintro _ _ ⟨b8, rfl, rfl⟩
    intro w R hs
    simp only [List.cons_append, List.nil_append] at hs
    replace hs := (Sat.boxow (l := ([([115, 116, 121, 108, 101] : Str)] : List Str)) (hs.sel (D := [box b8 _ _]) Q2) rfl rfl (by simp [maxLen]) (ownL_mk_flat (by intro x hx; obtain rfl := List.mem_singleton.1 hx; show WfS _; unfold WfS; simp)))
    refine Gives.rr' Q0 (Yr.appendS (s := (⟨[([115, 116, 121, 108, 101] : Str)], some ⟨b8, 0, none⟩, _⟩ : Sl Str)) (F := [b8]) (r := p.styles) hs elt24 Q2 Q0 Q0 (Ph.old h_p.styles hs) (by simp only [TPolicy.size, PPolicy.lg, strsz, lsz] at hb; simp; unfold maxLen; omega) (by simp only [TPolicy.size, PPolicy.lg, strsz, lsz] at hb; simp; omega)) ?_
    rintro _ w1 ⟨s10, F10, rfl, hl10, hs⟩
    exact ⟨[ow s10 F10], ⟨s10, F10, rfl, rfl, by first | exact hl10 | (simp only [List.append_nil] at hl10 ⊢; exact hl10)⟩, hs⟩
   ·
    clear hs
    rintro _ _ ⟨x11, F11, rfl, rfl, hx11⟩
    intro w R hs
    simp only [List.cons_append, List.nil_append] at hs
    refine Gives.c' Q0 (Yc.func Q0 fn53) (c_strings_Join _ _ _ (hs.okow (x := x11) (F := F11) Q1) (by simp only [hx11]; first | (simp only [TPolicy.size, PPolicy.lg, strsz, lsz] at hb; simp; omega) | (simp only [List.cons_append, List.nil_append]; refine Nat.le_trans (wordsText_len _ _) ?_; simp only [TPolicy.size, PPolicy.lg, List.length_cons, List.length_nil] at hb ⊢; omega)) (by simp only [hx11]; first | (simp only [TPolicy.size, PPolicy.lg, strsz, lsz] at hb; simp; omega) | (simp only [List.cons_append, List.nil_append]; refine Nat.le_trans (wordsText_len _ _) ?_; simp only [TPolicy.size, PPolicy.lg, List.length_cons, List.length_nil] at hb ⊢; omega))) ?_
    rintro _ w1 ⟨rfl, hb⟩
    exact ⟨_, rfl, [], ⟨(by first | rfl | (simp only [hx11])), rfl⟩, hs.ext hb⟩
   ·
    clear hs
    rintro _ _ ⟨rfl, rfl⟩
    rintro _ _ ⟨rfl, rfl⟩
    intro w R hs
    simp only [List.cons_append, List.nil_append] at hs
    exact Gives.p' Q0 (Yl.cat Q0 Q0 (by have j1 := wordsText_len [115, 99, 114, 105, 112, 116] p.scripts.l; have j2 := wordsText_len [115, 116, 121, 108, 101] p.styles.l; have j3 := wordsText_len [105, 109, 103] p.images.l; simp only [wordsText, List.cons_append, List.nil_append, List.length_append, List.length_cons, List.length_nil, TPolicy.size, PPolicy.lg] at j1 j2 j3 hb ⊢; omega)) ⟨[], ⟨rfl, rfl⟩, hs⟩
   ·
    clear hs
    rintro _ _ ⟨rfl, rfl⟩
    intro w R hs
    simp only [List.cons_append, List.nil_append] at hs
    exact Gives.p' Q0 (Yl.cat Q0 Q0 (by have j1 := wordsText_len [115, 99, 114, 105, 112, 116] p.scripts.l; have j2 := wordsText_len [115, 116, 121, 108, 101] p.styles.l; have j3 := wordsText_len [105, 109, 103] p.images.l; simp only [wordsText, List.cons_append, List.nil_append, List.length_append, List.length_cons, List.length_nil, TPolicy.size, PPolicy.lg] at j1 j2 j3 hb ⊢; omega)) ⟨[], ⟨rfl, rfl⟩, hs⟩
   ·
    clear hs
    intro w R hs
    simp only [List.cons_append, List.nil_append] at hs
    exact Gives.rr' Q0 (Yr.buildSlice hs sll24 Q0 Q0 Q0 Q4 Q0) (fun _ _ ⟨b, hv, _, hs1⟩ => ⟨[box b 9 (([S (([105, 109, 103] : Str))]))], ⟨b, hv, rfl⟩, hs1⟩)
   ·
    clear hs
    rintro _ _ ⟨rfl, rfl⟩
    rintro _ _ ⟨b15, rfl, rfl⟩
    intro w R hs
    simp only [List.cons_append, List.nil_append] at hs
    replace hs := (Sat.boxow (l := ([([105, 109, 103] : Str)] : List Str)) (hs.sel (D := [box b15 _ _]) Q2) rfl rfl (by simp [maxLen]) (ownL_mk_flat (by intro x hx; obtain rfl := List.mem_singleton.1 hx; show WfS _; unfold WfS; simp)))
    refine Gives.rr' Q0 (Yr.appendS (s := (⟨[([105, 109, 103] : Str)], some ⟨b15, 0, none⟩, _⟩ : Sl Str)) (F := [b15]) (r := p.images) hs elt24 Q2 Q0 Q0 (Ph.old h_p.images hs) (by simp only [TPolicy.size, PPolicy.lg, strsz, lsz] at hb; simp; unfold maxLen; omega) (by simp only [TPolicy.size, PPolicy.lg, strsz, lsz] at hb; simp; omega)) ?_
    rintro _ w1 ⟨s17, F17, rfl, hl17, hs⟩
    exact ⟨[ow s17 F17], ⟨s17, F17, rfl, rfl, by first | exact hl17 | (simp only [List.append_nil] at hl17 ⊢; exact hl17)⟩, hs⟩
   ·
    clear hs
    rintro _ _ ⟨x18, F18, rfl, rfl, hx18⟩
    intro w R hs
    simp only [List.cons_append, List.nil_append] at hs
    refine Gives.c' Q0 (Yc.func Q0 fn53) (c_strings_Join _ _ _ (hs.okow (x := x18) (F := F18) Q1) (by simp only [hx18]; first | (simp only [TPolicy.size, PPolicy.lg, strsz, lsz] at hb; simp; omega) | (simp only [List.cons_append, List.nil_append]; refine Nat.le_trans (wordsText_len _ _) ?_; simp only [TPolicy.size, PPolicy.lg, List.length_cons, List.length_nil] at hb ⊢; omega)) (by simp only [hx18]; first | (simp only [TPolicy.size, PPolicy.lg, strsz, lsz] at hb; simp; omega) | (simp only [List.cons_append, List.nil_append]; refine Nat.le_trans (wordsText_len _ _) ?_; simp only [TPolicy.size, PPolicy.lg, List.length_cons, List.length_nil] at hb ⊢; omega))) ?_
    rintro _ w1 ⟨rfl, hb⟩
    exact ⟨_, rfl, [], ⟨(by first | rfl | (simp only [hx18])), rfl⟩, hs.ext hb⟩
   clear hs
   rintro _ _ ⟨b2, rfl, rfl⟩
   rintro _ _ ⟨x5, F5, rfl, rfl, hx5⟩
   rintro _ _ ⟨rfl, rfl⟩
   rintro _ _ ⟨rfl, rfl⟩
   rintro _ _ ⟨b8, rfl, rfl⟩
   rintro _ _ ⟨x11, F11, rfl, rfl, hx11⟩
   rintro _ _ ⟨rfl, rfl⟩
   rintro _ _ ⟨rfl, rfl⟩
   rintro _ _ ⟨rfl, rfl⟩
   rintro _ _ ⟨b15, rfl, rfl⟩
   rintro _ _ ⟨x18, F18, rfl, rfl, hx18⟩
   rintro _ _ ⟨rfl, rfl⟩
   intro w hs
   simp only [List.cons_append, List.nil_append, cond_true, cond_false] at hs
   refine WA.p (i := 18) Q0 Q6 Q6 Q6 Q0 (hs.only Q2) (fun w hs => Yl.cat Q0 Q0 (by have j1 := wordsText_len [115, 99, 114, 105, 112, 116] p.scripts.l; have j2 := wordsText_len [115, 116, 121, 108, 101] p.styles.l; have j3 := wordsText_len [105, 109, 103] p.images.l; simp only [wordsText, List.cons_append, List.nil_append, List.length_append, List.length_cons, List.length_nil, TPolicy.size, PPolicy.lg] at j1 j2 j3 hb ⊢; omega)) ?_
   refine WA.p (i := 19) Q0 Q6 Q6 Q6 Q0 (hs.only Q2) (fun w hs => Yl.assign Q0) ?_
   refine WA.donen Q6 ?_
   refine WC.seq' ?_
   refine WC.seq ?_
   refine WL.p Q0 (Yl.fieldAddr fa26_4 Q0) ?_
   refine WL.p Q0 (Yl.loadB sca9 Q0 hs Q1 Q0) ?_
   refine WL.p Q0 (Yl.nes Q0 Q0) ?_
   refine WL.next ?_
   refine WC.condS Q0 (fun h3 => ?_) (fun h3 => ?_)
   ·
    replace h3 := not_eq_true h3
    replace h3 := of_decide_eq_false h3
    refine WC.region ?_
    refine Qm ?_
    refine WL.p Q0 (Yl.fieldAddr fa26_4 Q0) ?_
    refine WL.p Q0 (Yl.loadB sca9 Q0 hs Q1 Q0) ?_
    refine WL.p Q0 (Yl.cat Q0 Q0 (by have j1 := wordsText_len [115, 99, 114, 105, 112, 116] p.scripts.l; have j2 := wordsText_len [115, 116, 121, 108, 101] p.styles.l; have j3 := wordsText_len [105, 109, 103] p.images.l; simp only [wordsText, List.cons_append, List.nil_append, List.length_append, List.length_cons, List.length_nil, TPolicy.size, PPolicy.lg] at j1 j2 j3 hb ⊢; omega)) ?_
    refine WL.p Q0 (Yl.cat Q0 Q0 (by have j1 := wordsText_len [115, 99, 114, 105, 112, 116] p.scripts.l; have j2 := wordsText_len [115, 116, 121, 108, 101] p.styles.l; have j3 := wordsText_len [105, 109, 103] p.images.l; simp only [wordsText, List.cons_append, List.nil_append, List.length_append, List.length_cons, List.length_nil, TPolicy.size, PPolicy.lg] at j1 j2 j3 hb ⊢; omega)) ?_
    refine Qa ?_
    refine WL.nil ?_
    refine At.then_ ?_
    refine WC.seq ?_
    refine Qm ?_
    refine Qa ?_
    refine WL.next ?_
    refine WC.ret ?_
    refine fin1' rfl Q0 ?_
    refine RetP.mk hs ?_
    first
     | (simp [fmtPolicy, h1]; done)
     | (simp [fmtPolicy, h2]; done)
     | (simp [fmtPolicy, h1, h2, h3, wordsText]; done)
   ·
    replace h3 := not_eq_false h3
    replace h3 := of_decide_eq_true h3
    refine WC.skipn ?_
    refine WC.seq ?_
    refine Qm ?_
    refine Qa ?_
    refine WL.next ?_
    refine WC.ret ?_
    refine fin1' rfl Q0 ?_
    refine RetP.mk hs ?_
    first
     | (simp [fmtPolicy, h1]; done)
     | (simp [fmtPolicy, h2]; done)
     | (simp [fmtPolicy, h1, h2, h3, wordsText]; done)

theorem c_strings_Split (s : Str) (sep : Str) (w : World)  (h1 : s.length ≤ 2097152) (h2 : sep = [sep.headD 0]) (hm_ : ∃ m, w.cell? ⟨0, 0, none⟩ = some (.int .i64 m)) : Calls Tryd.prog 50 [S s, S sep].toArray w (Ret w (fun v w' => ∃ x : Sl Str, v = x.v ∧ x.l = splitC (sep.headD 0) s ∧ Fresh w x w')) := by
 rw [h2]; exact split_calls Tryd.strings_Split s (sep.headD 0) w h1 hm_

theorem c_strings_TrimPrefix (s : Str) (prefix_ : Str) (w : World)   : Calls Tryd.prog 51 [S s, S prefix_].toArray w (RetP w (S (if prefix_.isPrefixOf s then s.drop prefix_.length else s))) := by
 exact trim_calls Tryd.strings_TrimPrefix s prefix_ w

theorem c_impl_copyPolicy (p : PPolicy) (w : World) (h_p : Ph.ok w p) (hb : p.lg.size ≤ 1048576) : Calls Tryd.prog 52 [.agg #[Bo p.set, Sl.v p.scripts, Sl.v p.styles, Sl.v p.images, S p.nonce]].toArray w (Ret w (fun v w' => ∃ x : PPolicy, v = .agg (Ph.enc x).toArray ∧ x.lg = p.lg ∧ Fresh w x w')) := by
 refine enterN 19 Tryd.func52 rfl rfl rfl ?_
 have hs := Sat.start w
 refine WC.seq ?_
 refine WL.r Q0 (Yr.box hs Q0 Q0) ?_
 clear hs; rintro _ w ⟨b1, rfl, hb, hs⟩; clear hb
 refine WL.r Q0 (Yr.alloc hs zt26) ?_
 clear hs; rintro _ w ⟨b2, rfl, hb, hs⟩; clear hb
 refine WL.next ?_
 refine WC.seq ?_
 refine WL.r Q0 (Yr.buildSlice hs sll24 Q0 Q0 Q0 Q4 Q0) ?_
 clear hs; rintro _ w ⟨b3, rfl, hb, hs⟩; clear hb
 refine WL.p Q0 (Yl.fieldAddr fa26_1 Q0) ?_
 refine WL.p Q0 (Yl.loadB sca24 Q0 hs Q1 Q0) ?_
 replace hs := (Sat.boxow (l := ([] : List Str)) (hs.sel (D := [box b3 _ _]) Q2) rfl rfl (by simp [maxLen]) (ownL_mk_flat (by simp)))
 refine WL.r Q0 (Yr.appendS (s := (⟨[], some ⟨b3, 0, none⟩, _⟩ : Sl Str)) (F := [b3]) (r := p.scripts) hs elt24 Q2 Q0 Q0 (Ph.old h_p.scripts hs) (by have h1 := h_p.scripts.lt; have h2 := h_p.styles.lt; have h3 := h_p.images.lt; simp; unfold maxLen; omega) (by simp only [TPolicy.size, strsz, lsz] at hb; simp; omega)) ?_
 clear hs; rintro _ w ⟨s4, F4, rfl, hl4, hs⟩
 refine WL.p Q0 (Yl.fieldAddr fa26_1 Q0) ?_
 refine WL.s (Yr.storeB hs Q0 Q0 Q0 Q5 Q3 Q0 (by exact szf24)) ?_
 clear hs; rintro _ w hs
 refine WL.next ?_
 refine WC.seq ?_
 refine WL.r Q0 (Yr.buildSlice hs sll24 Q0 Q0 Q0 Q4 Q0) ?_
 clear hs; rintro _ w ⟨b5, rfl, hb, hs⟩; clear hb
 refine WL.p Q0 (Yl.fieldAddr fa26_2 Q0) ?_
 refine WL.p Q0 (Yl.loadB sca24 Q0 hs Q1 Q0) ?_
 replace hs := (Sat.boxow (l := ([] : List Str)) (hs.sel (D := [box b5 _ _]) Q2) rfl rfl (by simp [maxLen]) (ownL_mk_flat (by simp)))
 refine WL.r Q0 (Yr.appendS (s := (⟨[], some ⟨b5, 0, none⟩, _⟩ : Sl Str)) (F := [b5]) (r := p.styles) hs elt24 Q2 Q0 Q0 (Ph.old h_p.styles hs) (by have h1 := h_p.scripts.lt; have h2 := h_p.styles.lt; have h3 := h_p.images.lt; simp; unfold maxLen; omega) (by simp only [TPolicy.size, strsz, lsz] at hb; simp; omega)) ?_
 clear hs; rintro _ w ⟨s6, F6, rfl, hl6, hs⟩
 refine WL.p Q0 (Yl.fieldAddr fa26_2 Q0) ?_
 refine WL.s (Yr.storeB hs Q0 Q0 Q0 Q5 Q3 Q0 (by exact szf24)) ?_
 clear hs; rintro _ w hs
 refine WL.next ?_
 refine WC.seq ?_
 refine WL.r Q0 (Yr.buildSlice hs sll24 Q0 Q0 Q0 Q4 Q0) ?_
 clear hs; rintro _ w ⟨b7, rfl, hb, hs⟩; clear hb
 refine WL.p Q0 (Yl.fieldAddr fa26_3 Q0) ?_
 refine WL.p Q0 (Yl.loadB sca24 Q0 hs Q1 Q0) ?_
 replace hs := (Sat.boxow (l := ([] : List Str)) (hs.sel (D := [box b7 _ _]) Q2) rfl rfl (by simp [maxLen]) (ownL_mk_flat (by simp)))
 refine WL.r Q0 (Yr.appendS (s := (⟨[], some ⟨b7, 0, none⟩, _⟩ : Sl Str)) (F := [b7]) (r := p.images) hs elt24 Q2 Q0 Q0 (Ph.old h_p.images hs) (by have h1 := h_p.scripts.lt; have h2 := h_p.styles.lt; have h3 := h_p.images.lt; simp; unfold maxLen; omega) (by simp only [TPolicy.size, strsz, lsz] at hb; simp; omega)) ?_
 clear hs; rintro _ w ⟨s8, F8, rfl, hl8, hs⟩
 refine WL.p Q0 (Yl.fieldAddr fa26_3 Q0) ?_
 refine WL.s (Yr.storeB hs Q0 Q0 Q0 Q5 Q3 Q0 (by exact szf24)) ?_
 clear hs; rintro _ w hs
 refine WL.next ?_
 refine WC.seq ?_
 refine WL.p Q0 (Yl.loadAB agg26 Q0 hs Q1 Q0 Q0) ?_
 refine WL.s (Yr.storeB hs Q0 Q0 Q0 Q5 Q3 Q0 (by exact szf26)) ?_
 clear hs; rintro _ w hs
 refine WL.next ?_
 refine WC.ret ?_
 refine fin1c rfl agg26 Q0 hs Q1 Q0 ?_
 refine Ret.mk hs ?_
 refine ⟨⟨_, s4, s6, s8, _⟩, rfl, ?_, ?_⟩
 · simp_all
 · exact (PPolicy.join _ (hs.only (D := [ow s4 F4, ow s6 F6, ow s8 F8]) Q2) (by first | exact Ph.old h_p.set hs | trivial | assumption | exact Nat.zero_le _) (by first | exact Ph.old h_p.nonce hs | trivial | assumption | exact Nat.zero_le _)).fresh List.mem_cons_self

theorem c_impl_ParsePolicy (s : Str) (w : World)  (hb : s.length ≤ 1048576) (hm_ : ∃ m, w.cell? ⟨0, 0, none⟩ = some (.int .i64 m)) : Calls Tryd.prog 9 [S s].toArray w (Ret w (fun v w' => ∃ x : PPolicy, v = .tuple #[.agg (Ph.enc x).toArray, Bo (policyIs s)] ∧ x.lg = policyOf s ∧ Fresh w x w')) := by
 refine enterN 52 Tryd.func9 rfl rfl rfl ?_
 have hs := Sat.start w
 refine WC.seq ?_
 refine WL.r Q0 (Yr.alloc hs zt26) ?_
 clear hs; rintro _ w ⟨b1, rfl, hb, hs⟩; clear hb
 refine Qa ?_
 refine WL.next ?_
 refine WC.seq' ?_
 refine WC.seq ?_
 refine Qm ?_
 refine WL.p Q0 (Yl.eqs Q0 Q0) ?_
 refine WL.next ?_
 refine WC.condS Q0 (fun h1 => ?_) (fun h1 => ?_)
 ·
  replace h1 := of_decide_eq_true h1
  refine WC.seq ?_
  refine WL.p Q0 (Yl.build bt26 Q0 Q4) ?_
  refine WL.s (Yr.storeB hs Q0 Q0 Q0 Q5 Q3 Q0 (by exact szf26)) ?_
  clear hs; rintro _ w hs
  refine Qa ?_
  refine WL.next ?_
  refine WC.ret ?_
  refine At.thenret ?_
  refine fin2c rfl agg26 Q0 Q0 hs Q1 Q0 ?_
  refine Ret.mk hs ?_
  have hb9 : policyIs s = true := policyIs_nil h1
  exact ⟨⟨false, ⟨[], none, 0⟩, ⟨[], none, 0⟩, ⟨[], none, 0⟩, []⟩, by rw [hb9]; rfl, (policyOf_no (.inl h1)).symm, ⟨⟨[], PPolicy.zown _, .nil, fun b h => by cases h⟩⟩⟩
 ·
  replace h1 := of_decide_eq_false h1
  refine WC.skipn ?_
  refine WC.seq ?_
  refine Qm ?_
  refine WL.call hs Q0 (Yc.func Q0 fn50) (c_strings_Split _ _ _ Q10 Q0 (by first | assumption | exact Sat.cellm hs (by assumption))) ?_
  have hs0 := hs; clear hs; intro v w hb hR hs; clear hs
  obtain ⟨x2, rfl, hx2, hf2⟩ := hR
  obtain ⟨F2, hs⟩ := hf2.sat hs0 hb; clear hs0 hf2
  have hle2 := Sl.Ok.le (hs.okow (x := x2) (F := F2) Q1)
  refine Qa ?_
  refine WL.next ?_
  refine WC.seq' ?_
  refine WC.seq ?_
  refine Qm ?_
  refine WL.p Q0 (Yl.len_sl slu24 Q0) ?_
  refine WL.p Q0 (Yl.lss Q0 Q0) ?_
  refine WL.next ?_
  refine WC.condS Q0 (fun h2 => ?_) (fun h2 => ?_)
  ·
   replace h2 := of_decide_eq_true h2
   refine WC.seq ?_
   refine WL.p Q0 (Yl.build bt26 Q0 Q4) ?_
   refine WL.s (Yr.storeB hs Q0 Q0 Q0 Q5 Q3 Q0 (by exact szf26)) ?_
   clear hs; rintro _ w hs
   refine Qa ?_
   refine WL.next ?_
   refine WC.ret ?_
   refine At.thenret ?_
   refine fin2c rfl agg26 Q0 Q0 hs Q1 Q0 ?_
   refine Ret.mk hs ?_
   have hb9 : policyIs s = false := policyIs_short h1 (by rw [← show x2.l = splitC 59 s from hx2]; omega)
   exact ⟨⟨false, ⟨[], none, 0⟩, ⟨[], none, 0⟩, ⟨[], none, 0⟩, []⟩, by rw [hb9]; rfl, (policyOf_no (.inr hb9)).symm, ⟨⟨[], PPolicy.zown _, .nil, fun b h => by cases h⟩⟩⟩
  ·
   replace h2 := of_decide_eq_false h2
   have h39 := getD_len (s := s) (i := 3)
   rw [← show x2.l = splitC 59 s from hx2] at h39
   refine WC.skipn ?_
   refine WC.seq ?_
   refine WL.p Q0 (Yl.buildArr arr77 szf24 zt77) ?_
   refine WL.r Q0 (Yr.alloc hs zt77) ?_
   clear hs; rintro _ w ⟨b3, rfl, hb, hs⟩; clear hb
   refine WL.s (Yr.storeB hs Q0 Q0 Q0 Q5 Q3 Q0 (by exact szf77)) ?_
   clear hs; rintro _ w hs
   refine WL.next ?_
   refine WC.seq' ?_
   refine WC.seq ?_
   refine Qm ?_
   refine WL.next ?_
   refine WC.block ?_
   refine WC.loopN 4 ?_
   refine WR.succ ?_
   refine WC.seq ?_
   refine WL.p Q0 (Yl.lss Q0 Q0) ?_
   refine WL.next ?_
   refine WC.seq' ?_
   refine WC.condT Q0 ?_
   refine WC.skipn ?_
   refine WC.seq' ?_
   refine WC.block ?_
   refine WC.seq ?_
   refine Qm ?_
   refine Qa ?_
   refine WL.next ?_
   refine WC.region ?_
   refine Qm ?_
   refine Qm ?_
   refine Qm ?_
   refine WL.p Q0 (Yl.indexAddr (k := 0) slt24 Q0 Q0 (hs.okow (x := x2) (F := F2) Q1) Q0 ((getD_some (i := 0) (z := ([] : Str)) Q7))) ?_
   refine WL.p Q0 (Yl.loadC0 sca9 Q0 (Sl.Ok.at_ (hs.okow (x := x2) (F := F2) Q1) ((getD_some (i := 0) (z := ([] : Str)) Q7))).2 Q0) ?_
   refine WL.call hs Q0 (Yc.func Q0 fn50) (c_strings_Split _ _ _ (by first | (have := getD_len (s := s) (i := 0); rw [← show x2.l = splitC 59 s from hx2] at this; omega) | (have := getD_len (s := s) (i := 1); rw [← show x2.l = splitC 59 s from hx2] at this; omega) | (have := getD_len (s := s) (i := 2); rw [← show x2.l = splitC 59 s from hx2] at this; omega) | (have := getD_len (s := s) (i := 3); rw [← show x2.l = splitC 59 s from hx2] at this; omega)) Q0 (by first | assumption | exact Sat.cellm hs (by assumption))) ?_
   have hs0 := hs; clear hs; intro v w hb hR hs; clear hs
   obtain ⟨x4, rfl, hx4, hf4⟩ := hR
   obtain ⟨F4, hs⟩ := hf4.sat hs0 hb; clear hs0 hf4
   have hle4 := Sl.Ok.le (hs.okow (x := x4) (F := F4) Q1)
   refine WL.p Q0 (Yl.slice_sl (s := x4) (l := 1) (h := x4.l.length) slt24 Q0 hle4 (by exact ⟨_, by rfl⟩) (by exact rfl) (by rw [hx4]; exact List.length_pos_iff.2 (splitC_ne _ _)) (by exact Nat.le_refl _)) ?_
   refine WL.p Q0 (Yl.indexArr (i := 0) arr77 szf24 Q0 Q0 Q0 (by decide)) ?_
   refine WL.s (Yr.storeB hs Q0 Q0 Q0 Q5 Q3 Q0 (by exact szf24)) ?_
   clear hs; rintro _ w hs
   refine WL.nil ?_
   refine At.blocknormal ?_
   refine At.then_ ?_
   refine WC.region ?_
   refine WL.p Q0 (Yl.add Q0 Q0 Q7) ?_
   refine Qm ?_
   refine WL.nil ?_
   refine At.roundN ?_
   refine WR.succ ?_
   refine WC.seq ?_
   refine WL.p Q0 (Yl.lss Q0 Q0) ?_
   refine WL.next ?_
   refine WC.seq' ?_
   refine WC.condT Q0 ?_
   refine WC.skipn ?_
   refine WC.seq' ?_
   refine WC.block ?_
   refine WC.seq ?_
   refine Qm ?_
   refine Qa ?_
   refine WL.next ?_
   refine WC.region ?_
   refine Qm ?_
   refine Qm ?_
   refine Qm ?_
   refine WL.p Q0 (Yl.indexAddr (k := 1) slt24 Q0 Q0 (hs.okow (x := x2) (F := F2) Q1) Q0 ((getD_some (i := 1) (z := ([] : Str)) Q7))) ?_
   refine WL.p Q0 (Yl.loadC0 sca9 Q0 (Sl.Ok.at_ (hs.okow (x := x2) (F := F2) Q1) ((getD_some (i := 1) (z := ([] : Str)) Q7))).2 Q0) ?_
   refine WL.call hs Q0 (Yc.func Q0 fn50) (c_strings_Split _ _ _ (by first | (have := getD_len (s := s) (i := 0); rw [← show x2.l = splitC 59 s from hx2] at this; omega) | (have := getD_len (s := s) (i := 1); rw [← show x2.l = splitC 59 s from hx2] at this; omega) | (have := getD_len (s := s) (i := 2); rw [← show x2.l = splitC 59 s from hx2] at this; omega) | (have := getD_len (s := s) (i := 3); rw [← show x2.l = splitC 59 s from hx2] at this; omega)) Q0 (by first | assumption | exact Sat.cellm hs (by assumption))) ?_
   have hs0 := hs; clear hs; intro v w hb hR hs; clear hs
   obtain ⟨x5, rfl, hx5, hf5⟩ := hR
   obtain ⟨F5, hs⟩ := hf5.sat hs0 hb; clear hs0 hf5
   have hle5 := Sl.Ok.le (hs.okow (x := x5) (F := F5) Q1)
   refine WL.p Q0 (Yl.slice_sl (s := x5) (l := 1) (h := x5.l.length) slt24 Q0 hle5 (by exact ⟨_, by rfl⟩) (by exact rfl) (by rw [hx5]; exact List.length_pos_iff.2 (splitC_ne _ _)) (by exact Nat.le_refl _)) ?_
   refine WL.p Q0 (Yl.indexArr (i := 1) arr77 szf24 Q0 Q0 Q0 (by decide)) ?_
   refine WL.s (Yr.storeB hs Q0 Q0 Q0 Q5 Q3 Q0 (by exact szf24)) ?_
   clear hs; rintro _ w hs
   refine WL.nil ?_
   refine At.blocknormal ?_
   refine At.then_ ?_
   refine WC.region ?_
   refine WL.p Q0 (Yl.add Q0 Q0 Q7) ?_
   refine Qm ?_
   refine WL.nil ?_
   refine At.roundN ?_
   refine WR.succ ?_
   refine WC.seq ?_
   refine WL.p Q0 (Yl.lss Q0 Q0) ?_
   refine WL.next ?_
   refine WC.seq' ?_
   refine WC.condT Q0 ?_
   refine WC.skipn ?_
   refine WC.seq' ?_
   refine WC.block ?_
   refine WC.seq ?_
   refine Qm ?_
   refine Qa ?_
   refine WL.next ?_
   refine WC.region ?_
   refine Qm ?_
   refine Qm ?_
   refine Qm ?_
   refine WL.p Q0 (Yl.indexAddr (k := 2) slt24 Q0 Q0 (hs.okow (x := x2) (F := F2) Q1) Q0 ((getD_some (i := 2) (z := ([] : Str)) Q7))) ?_
   refine WL.p Q0 (Yl.loadC0 sca9 Q0 (Sl.Ok.at_ (hs.okow (x := x2) (F := F2) Q1) ((getD_some (i := 2) (z := ([] : Str)) Q7))).2 Q0) ?_
   refine WL.call hs Q0 (Yc.func Q0 fn50) (c_strings_Split _ _ _ (by first | (have := getD_len (s := s) (i := 0); rw [← show x2.l = splitC 59 s from hx2] at this; omega) | (have := getD_len (s := s) (i := 1); rw [← show x2.l = splitC 59 s from hx2] at this; omega) | (have := getD_len (s := s) (i := 2); rw [← show x2.l = splitC 59 s from hx2] at this; omega) | (have := getD_len (s := s) (i := 3); rw [← show x2.l = splitC 59 s from hx2] at this; omega)) Q0 (by first | assumption | exact Sat.cellm hs (by assumption))) ?_
   have hs0 := hs; clear hs; intro v w hb hR hs; clear hs
   obtain ⟨x6, rfl, hx6, hf6⟩ := hR
   obtain ⟨F6, hs⟩ := hf6.sat hs0 hb; clear hs0 hf6
   have hle6 := Sl.Ok.le (hs.okow (x := x6) (F := F6) Q1)
   refine WL.p Q0 (Yl.slice_sl (s := x6) (l := 1) (h := x6.l.length) slt24 Q0 hle6 (by exact ⟨_, by rfl⟩) (by exact rfl) (by rw [hx6]; exact List.length_pos_iff.2 (splitC_ne _ _)) (by exact Nat.le_refl _)) ?_
   refine WL.p Q0 (Yl.indexArr (i := 2) arr77 szf24 Q0 Q0 Q0 (by decide)) ?_
   refine WL.s (Yr.storeB hs Q0 Q0 Q0 Q5 Q3 Q0 (by exact szf24)) ?_
   clear hs; rintro _ w hs
   refine WL.nil ?_
   refine At.blocknormal ?_
   refine At.then_ ?_
   refine WC.region ?_
   refine WL.p Q0 (Yl.add Q0 Q0 Q7) ?_
   refine Qm ?_
   refine WL.nil ?_
   refine At.roundN ?_
   refine WR.succ ?_
   refine WC.seq ?_
   refine WL.p Q0 (Yl.lss Q0 Q0) ?_
   refine WL.next ?_
   refine WC.seq' ?_
   refine WC.condF Q0 ?_
   refine WC.exit ?_
   refine At.thenexit ?_
   refine At.thenexit ?_
   refine At.blockexit ?_
   refine At.then_ ?_
   refine WC.seq ?_
   refine WL.p Q0 (Yl.indexArr (i := 0) arr77 szf24 Q0 Q0 Q0 (by decide)) ?_
   refine WL.p Q0 (Yl.loadB sca24 Q0 hs Q1 Q0) ?_
   refine WL.p Q0 (Yl.indexArr (i := 1) arr77 szf24 Q0 Q0 Q0 (by decide)) ?_
   refine WL.p Q0 (Yl.loadB sca24 Q0 hs Q1 Q0) ?_
   refine WL.p Q0 (Yl.indexArr (i := 2) arr77 szf24 Q0 Q0 Q0 (by decide)) ?_
   refine WL.p Q0 (Yl.loadB sca24 Q0 hs Q1 Q0) ?_
   refine WL.p Q0 (Yl.build bt26 Q0 Q4) ?_
   refine WL.r Q0 (Yr.alloc hs zt26) ?_
   clear hs; rintro _ w ⟨b7, rfl, hb, hs⟩; clear hb
   refine WL.s (Yr.storeB hs Q0 Q0 Q0 Q5 Q3 Q0 (by exact szf26)) ?_
   clear hs; rintro _ w hs
   refine WL.next ?_
   refine WC.seq' ?_
   refine WC.seq ?_
   refine Qm ?_
   refine WL.p Q0 (Yl.len_sl slu24 Q0) ?_
   refine WL.p Q0 (Yl.gtr Q0 Q0) ?_
   refine WL.next ?_
   refine WC.condS Q0 (fun h3 => ?_) (fun h3 => ?_)
   ·
    replace h3 := of_decide_eq_true h3
    refine WC.region ?_
    refine Qm ?_
    refine WL.p Q0 (Yl.indexAddr (k := 3) slt24 Q0 Q0 (hs.okow (x := x2) (F := F2) Q1) Q0 ((getD_some (i := 3) (z := ([] : Str)) Q7))) ?_
    refine WL.p Q0 (Yl.loadC0 sca9 Q0 (Sl.Ok.at_ (hs.okow (x := x2) (F := F2) Q1) ((getD_some (i := 3) (z := ([] : Str)) Q7))).2 Q0) ?_
    refine WL.callp hs Q0 (Yc.func Q0 fn51) (c_strings_TrimPrefix _ _ _) ?_
    clear hs; intro w hs
    refine WL.p Q0 (Yl.fieldAddr fa26_4 Q0) ?_
    refine WL.s (Yr.storeB hs Q0 Q0 Q0 Q5 Q3 Q0 (by exact szf9)) ?_
    clear hs; rintro _ w hs
    refine WL.nil ?_
    refine At.then_ ?_
    refine WC.seq' ?_
    refine WC.seq ?_
    refine WL.p Q0 (Yl.loadAB agg26 Q0 hs Q1 Q0 Q0) ?_
    have hpl9 : PPolicy.lg (⟨true, (x4.cut 1 x4.l.length), (x5.cut 1 x5.l.length), (x6.cut 1 x6.l.length), (nonceI (x2.l.getD 3 []))⟩ : PPolicy) = polI s := by
     have e2 : x2.l = splitC 59 s := hx2
     have g0 : x4.l = splitC 32 ((splitC 59 s).getD 0 []) := by rw [← e2]; exact hx4
     have g1 : x5.l = splitC 32 ((splitC 59 s).getD 1 []) := by rw [← e2]; exact hx5
     have g2 : x6.l = splitC 32 ((splitC 59 s).getD 2 []) := by rw [← e2]; exact hx6
     have c0 : (x4.cut 1 x4.l.length).l = (splitC 32 ((splitC 59 s).getD 0 [])).tail := by rw [Sl.cut_full, g0, List.drop_one]
     have c1 : (x5.cut 1 x5.l.length).l = (splitC 32 ((splitC 59 s).getD 1 [])).tail := by rw [Sl.cut_full, g1, List.drop_one]
     have c2 : (x6.cut 1 x6.l.length).l = (splitC 32 ((splitC 59 s).getD 2 [])).tail := by rw [Sl.cut_full, g2, List.drop_one]
     simp only [PPolicy.lg, polI, polOf, c0, c1, c2, TPolicy.mk.injEq, true_and]
     rw [← e2]
     first
      | (rw [if_neg (show ¬ 3 < x2.l.length from fun h => by omega)]; done)
      | (rw [if_pos (show 3 < x2.l.length from Int.ofNat_lt.1 Q7)]; done)
      | (rw [if_pos (show 3 < x2.l.length from Int.ofNat_lt.1 Q7)]
         simp only [nonceS, nonceI]
         first
           | (rfl; done)
           | (rw [if_neg Q7]; done)
           | (rw [if_pos Q7, List.take_of_length_le (by simp)]; done)
           | (rw [if_pos Q7]; done))
    refine WL.callp hs Q0 (Yc.func Q0 fn10) (c_impl_FormatPolicy (⟨true, (x4.cut 1 x4.l.length), (x5.cut 1 x5.l.length), (x6.cut 1 x6.l.length), (nonceI (x2.l.getD 3 []))⟩ : PPolicy) _ ⟨trivial, (Sl.Ok.cut (hs.okow (x := x4) (F := F4) Q1) (by rw [hx4]; exact List.length_pos_iff.2 (splitC_ne _ _)) (by exact Nat.le_refl _)), (Sl.Ok.cut (hs.okow (x := x5) (F := F5) Q1) (by rw [hx5]; exact List.length_pos_iff.2 (splitC_ne _ _)) (by exact Nat.le_refl _)), (Sl.Ok.cut (hs.okow (x := x6) (F := F6) Q1) (by rw [hx6]; exact List.length_pos_iff.2 (splitC_ne _ _)) (by exact Nat.le_refl _)), (show WfS _ from Nat.le_trans (nonceI_len _) Q7)⟩ (by rw [hpl9]; have := polI_size (s := s) (by rw [← show x2.l = splitC 59 s from hx2]; omega); omega)) ?_
    clear hs; intro w hs
    refine Qm ?_
    refine WL.p Q0 (Yl.nes Q0 Q0) ?_
    refine WL.next ?_
    refine WC.condS Q0 (fun h4 => ?_) (fun h4 => ?_)
    ·
     replace h4 := not_eq_true h4
     replace h4 := of_decide_eq_false h4
     refine WC.seq ?_
     refine WL.p Q0 (Yl.build bt26 Q0 Q4) ?_
     refine WL.s (Yr.storeB hs Q0 Q0 Q0 Q5 Q3 Q0 (by exact szf26)) ?_
     clear hs; rintro _ w hs
     refine Qa ?_
     refine WL.next ?_
     refine WC.ret ?_
     refine At.thenret ?_
     refine fin2c rfl agg26 Q0 Q0 hs Q1 Q0 ?_
     refine Ret.mk hs ?_
     rw [hpl9] at h4
     have hb9 : policyIs s = false := policyIs_badI h1 h4
     exact ⟨⟨false, ⟨[], none, 0⟩, ⟨[], none, 0⟩, ⟨[], none, 0⟩, []⟩, by rw [hb9]; rfl, (policyOf_no (.inr hb9)).symm, ⟨⟨[], PPolicy.zown _, .nil, fun b h => by cases h⟩⟩⟩
    ·
     replace h4 := not_eq_false h4
     replace h4 := of_decide_eq_true h4
     refine WC.skipn ?_
     refine WC.seq ?_
     refine WL.p Q0 (Yl.loadAB agg26 Q0 hs Q1 Q0 Q0) ?_
     refine WL.call hs Q0 (Yc.func Q0 fn52) (c_impl_copyPolicy (⟨true, (x4.cut 1 x4.l.length), (x5.cut 1 x5.l.length), (x6.cut 1 x6.l.length), (nonceI (x2.l.getD 3 []))⟩ : PPolicy) _ ⟨trivial, (Sl.Ok.cut (hs.okow (x := x4) (F := F4) Q1) (by rw [hx4]; exact List.length_pos_iff.2 (splitC_ne _ _)) (by exact Nat.le_refl _)), (Sl.Ok.cut (hs.okow (x := x5) (F := F5) Q1) (by rw [hx5]; exact List.length_pos_iff.2 (splitC_ne _ _)) (by exact Nat.le_refl _)), (Sl.Ok.cut (hs.okow (x := x6) (F := F6) Q1) (by rw [hx6]; exact List.length_pos_iff.2 (splitC_ne _ _)) (by exact Nat.le_refl _)), (show WfS _ from Nat.le_trans (nonceI_len _) Q7)⟩ (by rw [hpl9]; have := polI_size (s := s) (by rw [← show x2.l = splitC 59 s from hx2]; omega); omega)) ?_
     have hs0 := hs; clear hs; intro v w hb hR hs; clear hs
     obtain ⟨x8, rfl, hx8, hf8⟩ := hR
     obtain ⟨F8, hs⟩ := hf8.sat hs0 hb; clear hs0 hf8
     refine WL.s (Yr.storeB hs Q0 Q0 Q0 Q5 Q3 Q0 (by exact szf26)) ?_
     clear hs; rintro _ w hs
     refine Qa ?_
     refine WL.next ?_
     refine WC.ret ?_
     refine fin2c rfl agg26 Q0 Q0 hs Q1 Q0 ?_
     refine Ret.mk hs ?_
     rw [hpl9] at h4
     have hq9 : x2.l = splitC 59 s := hx2
     have h49 : 3 ≤ (splitC 59 s).length := by rw [← hq9]; omega
     have hb9 : policyIs s = true := policyIs_goodI h1 h4 h49
     exact ⟨x8, by rw [hb9]; try rfl, hx8.trans (hpl9.trans (policyOf_goodI h1 hb9 h4).symm), hs.fresh Q1⟩
   ·
    replace h3 := of_decide_eq_false h3
    refine WC.skipn ?_
    refine WC.seq' ?_
    refine WC.seq ?_
    refine WL.p Q0 (Yl.loadAB agg26 Q0 hs Q1 Q0 Q0) ?_
    have hpl9 : PPolicy.lg (⟨true, (x4.cut 1 x4.l.length), (x5.cut 1 x5.l.length), (x6.cut 1 x6.l.length), ([] : Str)⟩ : PPolicy) = polI s := by
     have e2 : x2.l = splitC 59 s := hx2
     have g0 : x4.l = splitC 32 ((splitC 59 s).getD 0 []) := by rw [← e2]; exact hx4
     have g1 : x5.l = splitC 32 ((splitC 59 s).getD 1 []) := by rw [← e2]; exact hx5
     have g2 : x6.l = splitC 32 ((splitC 59 s).getD 2 []) := by rw [← e2]; exact hx6
     have c0 : (x4.cut 1 x4.l.length).l = (splitC 32 ((splitC 59 s).getD 0 [])).tail := by rw [Sl.cut_full, g0, List.drop_one]
     have c1 : (x5.cut 1 x5.l.length).l = (splitC 32 ((splitC 59 s).getD 1 [])).tail := by rw [Sl.cut_full, g1, List.drop_one]
     have c2 : (x6.cut 1 x6.l.length).l = (splitC 32 ((splitC 59 s).getD 2 [])).tail := by rw [Sl.cut_full, g2, List.drop_one]
     simp only [PPolicy.lg, polI, polOf, c0, c1, c2, TPolicy.mk.injEq, true_and]
     rw [← e2]
     first
      | (rw [if_neg (show ¬ 3 < x2.l.length from fun h => by omega)]; done)
      | (rw [if_pos (show 3 < x2.l.length from Int.ofNat_lt.1 Q7)]; done)
      | (rw [if_pos (show 3 < x2.l.length from Int.ofNat_lt.1 Q7)]
         simp only [nonceS, nonceI]
         first
           | (rfl; done)
           | (rw [if_neg Q7]; done)
           | (rw [if_pos Q7, List.take_of_length_le (by simp)]; done)
           | (rw [if_pos Q7]; done))
    refine WL.callp hs Q0 (Yc.func Q0 fn10) (c_impl_FormatPolicy (⟨true, (x4.cut 1 x4.l.length), (x5.cut 1 x5.l.length), (x6.cut 1 x6.l.length), ([] : Str)⟩ : PPolicy) _ ⟨trivial, (Sl.Ok.cut (hs.okow (x := x4) (F := F4) Q1) (by rw [hx4]; exact List.length_pos_iff.2 (splitC_ne _ _)) (by exact Nat.le_refl _)), (Sl.Ok.cut (hs.okow (x := x5) (F := F5) Q1) (by rw [hx5]; exact List.length_pos_iff.2 (splitC_ne _ _)) (by exact Nat.le_refl _)), (Sl.Ok.cut (hs.okow (x := x6) (F := F6) Q1) (by rw [hx6]; exact List.length_pos_iff.2 (splitC_ne _ _)) (by exact Nat.le_refl _)), (show WfS [] from Nat.zero_le _)⟩ (by rw [hpl9]; have := polI_size (s := s) (by rw [← show x2.l = splitC 59 s from hx2]; omega); omega)) ?_
    clear hs; intro w hs
    refine Qm ?_
    refine WL.p Q0 (Yl.nes Q0 Q0) ?_
    refine WL.next ?_
    refine WC.condS Q0 (fun h4 => ?_) (fun h4 => ?_)
    ·
     replace h4 := not_eq_true h4
     replace h4 := of_decide_eq_false h4
     refine WC.seq ?_
     refine WL.p Q0 (Yl.build bt26 Q0 Q4) ?_
     refine WL.s (Yr.storeB hs Q0 Q0 Q0 Q5 Q3 Q0 (by exact szf26)) ?_
     clear hs; rintro _ w hs
     refine Qa ?_
     refine WL.next ?_
     refine WC.ret ?_
     refine At.thenret ?_
     refine fin2c rfl agg26 Q0 Q0 hs Q1 Q0 ?_
     refine Ret.mk hs ?_
     rw [hpl9] at h4
     have hb9 : policyIs s = false := policyIs_badI h1 h4
     exact ⟨⟨false, ⟨[], none, 0⟩, ⟨[], none, 0⟩, ⟨[], none, 0⟩, []⟩, by rw [hb9]; rfl, (policyOf_no (.inr hb9)).symm, ⟨⟨[], PPolicy.zown _, .nil, fun b h => by cases h⟩⟩⟩
    ·
     replace h4 := not_eq_false h4
     replace h4 := of_decide_eq_true h4
     refine WC.skipn ?_
     refine WC.seq ?_
     refine WL.p Q0 (Yl.loadAB agg26 Q0 hs Q1 Q0 Q0) ?_
     refine WL.call hs Q0 (Yc.func Q0 fn52) (c_impl_copyPolicy (⟨true, (x4.cut 1 x4.l.length), (x5.cut 1 x5.l.length), (x6.cut 1 x6.l.length), ([] : Str)⟩ : PPolicy) _ ⟨trivial, (Sl.Ok.cut (hs.okow (x := x4) (F := F4) Q1) (by rw [hx4]; exact List.length_pos_iff.2 (splitC_ne _ _)) (by exact Nat.le_refl _)), (Sl.Ok.cut (hs.okow (x := x5) (F := F5) Q1) (by rw [hx5]; exact List.length_pos_iff.2 (splitC_ne _ _)) (by exact Nat.le_refl _)), (Sl.Ok.cut (hs.okow (x := x6) (F := F6) Q1) (by rw [hx6]; exact List.length_pos_iff.2 (splitC_ne _ _)) (by exact Nat.le_refl _)), (show WfS [] from Nat.zero_le _)⟩ (by rw [hpl9]; have := polI_size (s := s) (by rw [← show x2.l = splitC 59 s from hx2]; omega); omega)) ?_
     have hs0 := hs; clear hs; intro v w hb hR hs; clear hs
     obtain ⟨x9, rfl, hx9, hf9⟩ := hR
     obtain ⟨F9, hs⟩ := hf9.sat hs0 hb; clear hs0 hf9
     refine WL.s (Yr.storeB hs Q0 Q0 Q0 Q5 Q3 Q0 (by exact szf26)) ?_
     clear hs; rintro _ w hs
     refine Qa ?_
     refine WL.next ?_
     refine WC.ret ?_
     refine fin2c rfl agg26 Q0 Q0 hs Q1 Q0 ?_
     refine Ret.mk hs ?_
     rw [hpl9] at h4
     have hq9 : x2.l = splitC 59 s := hx2
     have h49 : 3 ≤ (splitC 59 s).length := by rw [← hq9]; omega
     have hb9 : policyIs s = true := policyIs_goodI h1 h4 h49
     exact ⟨x9, by rw [hb9]; try rfl, hx9.trans (hpl9.trans (policyOf_goodI h1 hb9 h4).symm), hs.fresh Q1⟩

theorem c_impl_IsResponse (x : TResponse) (w : World) (h_x : Ph.ok w x) (hb : x.policy.length ≤ 1048576) (hm_ : ∃ m, w.cell? ⟨0, 0, none⟩ = some (.int .i64 m)) : Calls Tryd.prog 43 [.agg #[I x.status, I x.kind, S x.body, I x.age, Bo x.shares, S x.policy]].toArray w (RetP w (Bo x.isv)) := by
 refine enterN 33 Tryd.func43 rfl rfl rfl ?_
 have hs := Sat.start w
 refine WC.seq ?_
 refine WL.r Q0 (Yr.box hs Q0 Q0) ?_
 clear hs; rintro _ w ⟨b1, rfl, hb, hs⟩; clear hb
 refine Qa ?_
 refine WL.next ?_
 refine WC.seq ?_
 refine WL.p Q0 (Yl.fieldAddr fa45_5 Q0) ?_
 refine WL.p Q0 (Yl.loadB sca9 Q0 hs Q1 Q0) ?_
 refine WL.call hs Q0 (Yc.func Q0 fn9) (c_impl_ParsePolicy _ _ Q10 (by first | assumption | exact Sat.cellm hs (by assumption))) ?_
 have hs0 := hs; clear hs; intro v w hb hR hs; clear hs
 obtain ⟨x2, rfl, hx2, hf2⟩ := hR
 obtain ⟨F2, hs⟩ := hf2.sat hs0 hb; clear hs0 hf2
 refine Qm ?_
 refine WL.p Q0 (Yl.extract Q0 Q0) ?_
 refine WL.p Q0 (Yl.extract Q0 Q0) ?_
 refine WL.r Q0 (Yr.alloc hs zt26) ?_
 clear hs; rintro _ w ⟨b3, rfl, hb, hs⟩; clear hb
 refine WL.s (Yr.storeB hs Q0 Q0 Q0 Q5 Q3 Q0 (by exact szf26)) ?_
 clear hs; rintro _ w hs
 refine Qa ?_
 refine WL.next ?_
 refine WC.seq ?_
 refine Qm ?_
 refine Qm ?_
 refine WL.split (d := 12) Q0 (fun h1 => ?_) (fun h1 => ?_)
 ·
  refine WL.run (d := 12) Q0 Q0 ?_
  refine WL.p Q0 (Yl.fieldAddr fa45_0 Q0) ?_
  refine WL.run (d := 12) Q0 Q0 ?_
  refine WL.p Q0 (Yl.loadB sca3 Q0 hs Q1 Q0) ?_
  refine WL.run (d := 12) Q0 Q0 ?_
  refine WL.callp hs Q0 (Yc.func Q0 fn73) (c_impl_InRange _ _ _ _) ?_
  clear hs; intro w hs
  refine WL.p Q0 (Yl.pickT Q0 Q0) ?_
  refine Qm ?_
  refine WL.split (d := 17) Q0 (fun h2 => ?_) (fun h2 => ?_)
  ·
   replace h2 := inR_true.1 h2
   refine WL.run (d := 17) Q0 Q0 ?_
   refine WL.p Q0 (Yl.fieldAddr fa45_1 Q0) ?_
   refine WL.run (d := 17) Q0 Q0 ?_
   refine WL.p Q0 (Yl.loadB sca3 Q0 hs Q1 Q0) ?_
   refine WL.run (d := 17) Q0 Q0 ?_
   refine WL.callp hs Q0 (Yc.func Q0 fn73) (c_impl_InRange _ _ _ _) ?_
   clear hs; intro w hs
   refine WL.p Q0 (Yl.pickT Q0 Q0) ?_
   refine Qm ?_
   refine WL.split (d := 22) Q0 (fun h3 => ?_) (fun h3 => ?_)
   ·
    replace h3 := inR_true.1 h3
    refine WL.run (d := 22) Q0 Q0 ?_
    refine WL.p Q0 (Yl.fieldAddr fa45_2 Q0) ?_
    refine WL.run (d := 22) Q0 Q0 ?_
    refine WL.p Q0 (Yl.loadB sca9 Q0 hs Q1 Q0) ?_
    refine WL.run (d := 22) Q0 Q0 ?_
    refine WL.p Q0 (Yl.len_str str9 Q0) ?_
    refine WL.run (d := 22) Q0 Q0 ?_
    refine WL.p Q0 (Yl.leq Q0 Q0) ?_
    refine WL.p Q0 (Yl.pickT Q0 Q0) ?_
    refine Qm ?_
    refine WL.split (d := 28) Q0 (fun h4 => ?_) (fun h4 => ?_)
    ·
     replace h4 := of_decide_eq_true h4
     refine WL.run (d := 28) Q0 Q0 ?_
     refine WL.p Q0 (Yl.fieldAddr fa45_3 Q0) ?_
     refine WL.run (d := 28) Q0 Q0 ?_
     refine WL.p Q0 (Yl.loadB sca3 Q0 hs Q1 Q0) ?_
     refine WL.run (d := 28) Q0 Q0 ?_
     refine WL.callp hs Q0 (Yc.func Q0 fn73) (c_impl_InRange _ _ _ _) ?_
     clear hs; intro w hs
     refine WL.p Q0 (Yl.pickT Q0 Q0) ?_
     refine Qa ?_
     refine WL.next ?_
     refine WC.ret ?_
     refine fin1' rfl Q0 ?_
     refine RetP.mk hs ?_
     clear hs hb h_x
     try simp only [← inR_true] at *
     try simp only [← inR_false] at *
     simp_all [TResponse.isv]
     try (intro hh; omega)
    ·
     replace h4 := of_decide_eq_false h4
     refine WL.skip (d := 28) Q0 Q0 Q0 Q0 ?_
     refine WL.skip (d := 28) Q0 Q0 Q0 Q0 ?_
     refine WL.skip (d := 28) Q0 Q0 Q0 Q0 ?_
     refine WL.p Q0 (Yl.pickF Q0 Q0) ?_
     refine Qa ?_
     refine WL.next ?_
     refine WC.ret ?_
     refine fin1' rfl Q0 ?_
     refine RetP.mk hs ?_
     clear hs hb h_x
     try simp only [← inR_true] at *
     try simp only [← inR_false] at *
     simp_all [TResponse.isv]
     try (intro hh; omega)
   ·
    replace h3 := inR_false.1 h3
    refine WL.skip (d := 22) Q0 Q0 Q0 Q0 ?_
    refine WL.skip (d := 22) Q0 Q0 Q0 Q0 ?_
    refine WL.skip (d := 22) Q0 Q0 Q0 Q0 ?_
    refine WL.skip (d := 22) Q0 Q0 Q0 Q0 ?_
    refine WL.p Q0 (Yl.pickF Q0 Q0) ?_
    refine Qm ?_
    refine WL.skip (d := 28) Q0 Q0 Q0 Q0 ?_
    refine WL.skip (d := 28) Q0 Q0 Q0 Q0 ?_
    refine WL.skip (d := 28) Q0 Q0 Q0 Q0 ?_
    refine WL.p Q0 (Yl.pickF Q0 Q0) ?_
    refine Qa ?_
    refine WL.next ?_
    refine WC.ret ?_
    refine fin1' rfl Q0 ?_
    refine RetP.mk hs ?_
    clear hs hb h_x
    try simp only [← inR_true] at *
    try simp only [← inR_false] at *
    simp_all [TResponse.isv]
    try (intro hh; omega)
  ·
   replace h2 := inR_false.1 h2
   refine WL.skip (d := 17) Q0 Q0 Q0 Q0 ?_
   refine WL.skip (d := 17) Q0 Q0 Q0 Q0 ?_
   refine WL.skip (d := 17) Q0 Q0 Q0 Q0 ?_
   refine WL.p Q0 (Yl.pickF Q0 Q0) ?_
   refine Qm ?_
   refine WL.skip (d := 22) Q0 Q0 Q0 Q0 ?_
   refine WL.skip (d := 22) Q0 Q0 Q0 Q0 ?_
   refine WL.skip (d := 22) Q0 Q0 Q0 Q0 ?_
   refine WL.skip (d := 22) Q0 Q0 Q0 Q0 ?_
   refine WL.p Q0 (Yl.pickF Q0 Q0) ?_
   refine Qm ?_
   refine WL.skip (d := 28) Q0 Q0 Q0 Q0 ?_
   refine WL.skip (d := 28) Q0 Q0 Q0 Q0 ?_
   refine WL.skip (d := 28) Q0 Q0 Q0 Q0 ?_
   refine WL.p Q0 (Yl.pickF Q0 Q0) ?_
   refine Qa ?_
   refine WL.next ?_
   refine WC.ret ?_
   refine fin1' rfl Q0 ?_
   refine RetP.mk hs ?_
   clear hs hb h_x
   try simp only [← inR_true] at *
   try simp only [← inR_false] at *
   simp_all [TResponse.isv]
   try (intro hh; omega)
 ·
  refine WL.skip (d := 12) Q0 Q0 Q0 Q0 ?_
  refine WL.skip (d := 12) Q0 Q0 Q0 Q0 ?_
  refine WL.skip (d := 12) Q0 Q0 Q0 Q0 ?_
  refine WL.p Q0 (Yl.pickF Q0 Q0) ?_
  refine Qm ?_
  refine WL.skip (d := 17) Q0 Q0 Q0 Q0 ?_
  refine WL.skip (d := 17) Q0 Q0 Q0 Q0 ?_
  refine WL.skip (d := 17) Q0 Q0 Q0 Q0 ?_
  refine WL.p Q0 (Yl.pickF Q0 Q0) ?_
  refine Qm ?_
  refine WL.skip (d := 22) Q0 Q0 Q0 Q0 ?_
  refine WL.skip (d := 22) Q0 Q0 Q0 Q0 ?_
  refine WL.skip (d := 22) Q0 Q0 Q0 Q0 ?_
  refine WL.skip (d := 22) Q0 Q0 Q0 Q0 ?_
  refine WL.p Q0 (Yl.pickF Q0 Q0) ?_
  refine Qm ?_
  refine WL.skip (d := 28) Q0 Q0 Q0 Q0 ?_
  refine WL.skip (d := 28) Q0 Q0 Q0 Q0 ?_
  refine WL.skip (d := 28) Q0 Q0 Q0 Q0 ?_
  refine WL.p Q0 (Yl.pickF Q0 Q0) ?_
  refine Qa ?_
  refine WL.next ?_
  refine WC.ret ?_
  refine fin1' rfl Q0 ?_
  refine RetP.mk hs ?_
  clear hs hb h_x
  try simp only [← inR_true] at *
  try simp only [← inR_false] at *
  simp_all [TResponse.isv]
  try (intro hh; omega)

theorem c_spec_l5Split (s : Str) (b : UInt8) (w : World)  (hb : s.length ≤ 2097152) : Calls Tryd.prog 64 [S s, U8 b].toArray w (Ret w (fun v w' => ∃ x : Sl Str, v = x.v ∧ x.l = splitC b s ∧ Fresh w x w')) := by
 refine enterN 36 Tryd.func64 rfl rfl rfl ?_
 have hs := Sat.start w
 refine WC.seq ?_
 refine Qa ?_
 refine WL.next ?_
 refine WC.seq ?_
 refine WL.r Q0 (Yr.buildSlice hs sll24 Q0 Q0 Q0 Q4 Q0) ?_
 clear hs; rintro _ w ⟨b1, rfl, hb, hs⟩; clear hb
 refine Qa ?_
 refine WL.next ?_
 refine WC.seq ?_
 refine Qa ?_
 refine WL.next ?_
 refine WC.seq' ?_
 refine WC.seq ?_
 refine Qa ?_
 refine WL.next ?_
 refine WC.block ?_
 replace hs := Sat.boxow (l := ([] : List Str)) hs rfl rfl (by simp) (ownL_mk_flat (by simp))
 refine WC.loopC (ι := Nat × Nat × Sl Str × List Nat) (fun ⟨k, f, q, F⟩ => s.length + 1 - k) (fun ⟨k, f, q, F⟩ => [(7, I (k : Int)), (6, I (f : Int)), (5, q.v)]) (fun ⟨k, f, q, F⟩ => [ow q F]) (fun ⟨k, f, q, F⟩ => (k ≤ s.length ∧ f ≤ k ∧ splitC b s = q.l ++ preH ((s.drop f).take (k - f)) (splitC b (s.drop k))) ∨ (k = s.length + 1 ∧ splitC b s = q.l)) [(0, _), (1, _), (4, _)] (0, 0, ⟨[], some ⟨b1, 0, none⟩, 0⟩, [b1]) (hs.sel (D := [ow (⟨[], some ⟨b1, 0, none⟩, 0⟩ : Sl Str) [b1]]) Q2) ⟨by rfl, by rfl, by rfl, trivial⟩ ⟨by rfl, by rfl, by rfl, trivial⟩ ?_ ?_
 ·
  exact .inl ⟨Nat.zero_le _, Nat.le_refl _, by simp [preH_nil]⟩
 clear hs; rintro ⟨k, f, q, F⟩ w hJ hs
 simp only [List.cons_append, List.nil_append] at hs
 refine WC.seq' ?_
 refine WC.seq ?_
 refine Qm ?_
 refine Qm ?_
 refine WL.p Q0 (Yl.len_str str9 Q0) ?_
 refine WL.p Q0 (Yl.leq Q0 Q0) ?_
 refine WL.next ?_
 refine WC.condS Q0 (fun h1 => ?_) (fun h1 => ?_)
 ·
  replace h1 := of_decide_eq_true h1
  obtain ⟨hJ1, hJ2, hJ3⟩ : k ≤ s.length ∧ f ≤ k ∧ splitC b s = q.l ++ preH ((s.drop f).take (k - f)) (splitC b (s.drop k)) := by
   rcases hJ with h | h
   · exact h
   · omega
  have hlq : q.l.length ≤ s.length + 1 := by
   have e1 := congrArg List.length hJ3
   have e2 := splitC_len b s
   simp only [List.length_append] at e1
   omega
  refine WC.skipn ?_
  refine WC.seq' ?_
  refine WC.block ?_
  refine WC.seq ?_
  refine Qm ?_
  refine Qm ?_
  refine WL.p Q0 (Yl.len_str str9 Q0) ?_
  refine WL.p Q0 (Yl.eqi Q0 Q0) ?_
  refine Qm ?_
  refine WL.split (d := 19) Q0 (fun h2 => ?_) (fun h2 => ?_)
  ·
   replace h2 := of_decide_eq_true h2
   refine WL.skip (d := 19) Q0 Q0 Q0 Q0 ?_
   refine WL.skip (d := 19) Q0 Q0 Q0 Q0 ?_
   refine WL.skip (d := 19) Q0 Q0 Q0 Q0 ?_
   refine WL.skip (d := 19) Q0 Q0 Q0 Q0 ?_
   refine WL.skip (d := 19) Q0 Q0 Q0 Q0 ?_
   refine WL.p Q0 (Yl.pickT Q0 Q0) ?_
   refine WL.next ?_
   refine WC.condT Q0 ?_
   refine WC.seq ?_
   refine Qm ?_
   refine Qm ?_
   refine Qm ?_
   refine Qm ?_
   refine WL.p Q0 (Yl.slice_str str9 Q0 (by exact ⟨_, by rfl⟩) (by exact ⟨_, by rfl⟩) Q7 Q7) ?_
   refine WL.r Q0 (Yr.buildSlice hs sll24 Q0 Q0 Q0 Q4 Q0) ?_
   clear hs; rintro _ w ⟨b2, rfl, hb, hs⟩; clear hb
   refine WL.r Q0 (Yr.append (s := q) (F := F) hs elt24 Q2 Q0 Q0 rfl (xs := [(s.drop f).take (k - f)]) (hs.box_cells Q1) (by intro x hx; obtain rfl := List.mem_singleton.1 hx; show WfS _; unfold WfS; simp only [List.length_take, List.length_drop]; omega) (by simp; unfold maxLen; omega) (by simp; omega)) ?_
   clear hs; rintro _ w ⟨s3, F3, rfl, hl3, hs⟩
   refine Qa ?_
   refine WL.next ?_
   refine WC.region ?_
   refine Qm ?_
   refine WL.p Q0 (Yl.add Q0 Q0 Q7) ?_
   refine Qa ?_
   refine WL.nil ?_
   refine At.blocknormal ?_
   refine At.then_ ?_
   refine WC.region ?_
   refine Qm ?_
   refine WL.p Q0 (Yl.add Q0 Q0 Q7) ?_
   refine Qa ?_
   refine WL.nil ?_
   refine At.roundC (k + 1, k + 1, s3, F3) (hs.only Q2) ⟨by rfl, by rfl, by rfl, trivial⟩ ⟨by rfl, by rfl, by rfl, trivial⟩ ?_ ?_
   ·
    show s.length + 1 - (k + 1) < s.length + 1 - k
    omega
   ·
    refine .inr ⟨by omega, ?_⟩
    rw [hl3, hJ3]
    obtain rfl : k = s.length := by omega
    rw [List.drop_length, preH_end]
  ·
   replace h2 := of_decide_eq_false h2
   refine WL.run (d := 19) Q0 Q0 ?_
   refine Qm ?_
   refine WL.run (d := 19) Q0 Q0 ?_
   refine Qm ?_
   refine WL.run (d := 19) Q0 Q0 ?_
   refine WL.p Q0 (Yl.index str9 Q0 Q0 Q0 (by first | assumption | exact List.getElem?_eq_getElem Q7)) ?_
   refine WL.run (d := 19) Q0 Q0 ?_
   refine Qm ?_
   refine WL.run (d := 19) Q0 Q0 ?_
   refine WL.p Q0 (Yl.eqi Q0 Q0) ?_
   refine WL.p Q0 (Yl.pickF Q0 Q0) ?_
   refine WL.next ?_
   refine WC.condS Q0 (fun h3 => ?_) (fun h3 => ?_)
   ·
    replace h3 := of_decide_eq_true h3
    refine WC.seq ?_
    refine Qm ?_
    refine Qm ?_
    refine Qm ?_
    refine Qm ?_
    refine WL.p Q0 (Yl.slice_str str9 Q0 (by exact ⟨_, by rfl⟩) (by exact ⟨_, by rfl⟩) Q7 Q7) ?_
    refine WL.r Q0 (Yr.buildSlice hs sll24 Q0 Q0 Q0 Q4 Q0) ?_
    clear hs; rintro _ w ⟨b4, rfl, hb, hs⟩; clear hb
    refine WL.r Q0 (Yr.append (s := q) (F := F) hs elt24 Q2 Q0 Q0 rfl (xs := [(s.drop f).take (k - f)]) (hs.box_cells Q1) (by intro x hx; obtain rfl := List.mem_singleton.1 hx; show WfS _; unfold WfS; simp only [List.length_take, List.length_drop]; omega) (by simp; unfold maxLen; omega) (by simp; omega)) ?_
    clear hs; rintro _ w ⟨s5, F5, rfl, hl5, hs⟩
    refine Qa ?_
    refine WL.next ?_
    refine WC.region ?_
    refine Qm ?_
    refine WL.p Q0 (Yl.add Q0 Q0 Q7) ?_
    refine Qa ?_
    refine WL.nil ?_
    refine At.blocknormal ?_
    refine At.then_ ?_
    refine WC.region ?_
    refine Qm ?_
    refine WL.p Q0 (Yl.add Q0 Q0 Q7) ?_
    refine Qa ?_
    refine WL.nil ?_
    refine At.roundC (k + 1, k + 1, s5, F5) (hs.only Q2) ⟨by rfl, by rfl, by rfl, trivial⟩ ⟨by rfl, by rfl, by rfl, trivial⟩ ?_ ?_
    ·
     show s.length + 1 - (k + 1) < s.length + 1 - k
     omega
    ·
     have hc := List.drop_eq_getElem_cons (l := s) (i := k) Q7
     have hcb : s[k] = b := by apply UInt8.toNat_inj.1; omega
     refine .inl ⟨by omega, Nat.le_refl _, ?_⟩
     rw [hl5, hJ3, hc, hcb, preH_cut, Nat.sub_self, List.take_zero, preH_nil]; simp
   ·
    replace h3 := of_decide_eq_false h3
    refine WC.skip ?_
    refine At.blocknormal ?_
    refine At.then_ ?_
    refine WC.region ?_
    refine Qm ?_
    refine WL.p Q0 (Yl.add Q0 Q0 Q7) ?_
    refine Qa ?_
    refine WL.nil ?_
    refine At.roundC (k + 1, f, q, F) (hs.only Q2) ⟨by rfl, by rfl, by rfl, trivial⟩ ⟨by rfl, by rfl, by rfl, trivial⟩ ?_ ?_
    ·
     show s.length + 1 - (k + 1) < s.length + 1 - k
     omega
    ·
     have hc := List.drop_eq_getElem_cons (l := s) (i := k) Q7
     have hcb : s[k] ≠ b := by intro h; apply h3; rw [h]
     refine .inl ⟨by omega, by omega, ?_⟩
     have e : (s.drop f).take (k + 1 - f) = (s.drop f).take (k - f) ++ [s[k]] := by
      rw [show k + 1 - f = (k - f) + 1 from by omega, List.take_add_one, List.getElem?_drop, show f + (k - f) = k from by omega, List.getElem?_eq_getElem Q7]; rfl
     rw [e, hJ3, hc, preH_step hcb]
 ·
  replace h1 := of_decide_eq_false h1
  refine WC.exit ?_
  refine At.thenexit ?_
  refine At.thenexit ?_
  refine At.blockexit ?_
  refine At.then_ ?_
  refine WC.seq ?_
  refine Qm ?_
  refine Qa ?_
  refine WL.next ?_
  refine WC.ret ?_
  refine fin1' rfl Q0 ?_
  refine Ret.mk hs ?_
  rcases hJ with h | ⟨_, h⟩
  · omega
  · exact ⟨q, rfl, h.symm, hs.fresh Q1⟩

theorem c_spec_ParsePolicy (s : Str) (w : World)  (hb : s.length ≤ 1048576) : Calls Tryd.prog 15 [S s].toArray w (Ret w (fun v w' => ∃ x : PPolicy, v = .tuple #[.agg (Ph.enc x).toArray, Bo (policyIs s)] ∧ x.lg = policyOf s ∧ Fresh w x w')) := by
 refine enterN 52 Tryd.func15 rfl rfl rfl ?_
 have hs := Sat.start w
 refine WC.seq ?_
 refine WL.r Q0 (Yr.alloc hs zt26) ?_
 clear hs; rintro _ w ⟨b1, rfl, hb, hs⟩; clear hb
 refine Qa ?_
 refine WL.next ?_
 refine WC.seq' ?_
 refine WC.seq ?_
 refine Qm ?_
 refine WL.p Q0 (Yl.eqs Q0 Q0) ?_
 refine WL.next ?_
 refine WC.condS Q0 (fun h1 => ?_) (fun h1 => ?_)
 ·
  replace h1 := of_decide_eq_true h1
  refine WC.seq ?_
  refine WL.p Q0 (Yl.build bt26 Q0 Q4) ?_
  refine WL.s (Yr.storeB hs Q0 Q0 Q0 Q5 Q3 Q0 (by exact szf26)) ?_
  clear hs; rintro _ w hs
  refine Qa ?_
  refine WL.next ?_
  refine WC.ret ?_
  refine At.thenret ?_
  refine fin2c rfl agg26 Q0 Q0 hs Q1 Q0 ?_
  refine Ret.mk hs ?_
  have hb9 : policyIs s = true := policyIs_nil h1
  exact ⟨⟨false, ⟨[], none, 0⟩, ⟨[], none, 0⟩, ⟨[], none, 0⟩, []⟩, by rw [hb9]; rfl, (policyOf_no (.inl h1)).symm, ⟨⟨[], PPolicy.zown _, .nil, fun b h => by cases h⟩⟩⟩
 ·
  replace h1 := of_decide_eq_false h1
  refine WC.skipn ?_
  refine WC.seq ?_
  refine Qm ?_
  refine WL.call hs Q0 (Yc.func Q0 fn64) (c_spec_l5Split _ 59 _ Q10) ?_
  have hs0 := hs; clear hs; intro v w hb hR hs; clear hs
  obtain ⟨x2, rfl, hx2, hf2⟩ := hR
  obtain ⟨F2, hs⟩ := hf2.sat hs0 hb; clear hs0 hf2
  have hle2 := Sl.Ok.le (hs.okow (x := x2) (F := F2) Q1)
  refine Qa ?_
  refine WL.next ?_
  refine WC.seq' ?_
  refine WC.seq ?_
  refine Qm ?_
  refine WL.p Q0 (Yl.len_sl slu24 Q0) ?_
  refine WL.p Q0 (Yl.lss Q0 Q0) ?_
  refine WL.next ?_
  refine WC.condS Q0 (fun h2 => ?_) (fun h2 => ?_)
  ·
   replace h2 := of_decide_eq_true h2
   refine WC.seq ?_
   refine WL.p Q0 (Yl.build bt26 Q0 Q4) ?_
   refine WL.s (Yr.storeB hs Q0 Q0 Q0 Q5 Q3 Q0 (by exact szf26)) ?_
   clear hs; rintro _ w hs
   refine Qa ?_
   refine WL.next ?_
   refine WC.ret ?_
   refine At.thenret ?_
   refine fin2c rfl agg26 Q0 Q0 hs Q1 Q0 ?_
   refine Ret.mk hs ?_
   have hb9 : policyIs s = false := policyIs_short h1 (by rw [← show x2.l = splitC 59 s from hx2]; omega)
   exact ⟨⟨false, ⟨[], none, 0⟩, ⟨[], none, 0⟩, ⟨[], none, 0⟩, []⟩, by rw [hb9]; rfl, (policyOf_no (.inr hb9)).symm, ⟨⟨[], PPolicy.zown _, .nil, fun b h => by cases h⟩⟩⟩
  ·
   replace h2 := of_decide_eq_false h2
   have h39 := getD_len (s := s) (i := 3)
   rw [← show x2.l = splitC 59 s from hx2] at h39
   refine WC.skipn ?_
   refine WC.anyn mixed hs ?_
   clear hs; intro w hs
   refine WA.p (i := 0) Q0 Q6 Q6 Q6 Q0 (hs.only Q2) (fun w hs => Yl.move Q0) ?_
   refine WA.p (i := 1) Q0 Q6 Q6 Q6 Q0 (hs.only Q2) (fun w hs => Yl.indexAddr (k := 0) slt24 Q0 Q0 (hs.okow (x := x2) (F := F2) Q1) Q0 ((getD_some (i := 0) (z := ([] : Str)) Q7))) ?_
   refine WA.p (i := 2) Q0 Q6 Q6 Q6 Q0 (hs.only Q2) (fun w hs => Yl.loadC0 sca9 Q0 (Sl.Ok.at_ (hs.okow (x := x2) (F := F2) Q1) ((getD_some (i := 0) (z := ([] : Str)) Q7))).2 Q0) ?_
   refine WA.p (i := 5) Q0 Q6 Q6 Q6 Q0 (hs.only Q2) (fun w hs => Yl.move Q0) ?_
   refine WA.p (i := 6) Q0 Q6 Q6 Q6 Q0 (hs.only Q2) (fun w hs => Yl.indexAddr (k := 1) slt24 Q0 Q0 (hs.okow (x := x2) (F := F2) Q1) Q0 ((getD_some (i := 1) (z := ([] : Str)) Q7))) ?_
   refine WA.p (i := 7) Q0 Q6 Q6 Q6 Q0 (hs.only Q2) (fun w hs => Yl.loadC0 sca9 Q0 (Sl.Ok.at_ (hs.okow (x := x2) (F := F2) Q1) ((getD_some (i := 1) (z := ([] : Str)) Q7))).2 Q0) ?_
   refine WA.p (i := 10) Q0 Q6 Q6 Q6 Q0 (hs.only Q2) (fun w hs => Yl.move Q0) ?_
   refine WA.p (i := 11) Q0 Q6 Q6 Q6 Q0 (hs.only Q2) (fun w hs => Yl.indexAddr (k := 2) slt24 Q0 Q0 (hs.okow (x := x2) (F := F2) Q1) Q0 ((getD_some (i := 2) (z := ([] : Str)) Q7))) ?_
   refine WA.p (i := 12) Q0 Q6 Q6 Q6 Q0 (hs.only Q2) (fun w hs => Yl.loadC0 sca9 Q0 (Sl.Ok.at_ (hs.okow (x := x2) (F := F2) Q1) ((getD_some (i := 2) (z := ([] : Str)) Q7))).2 Q0) ?_
   refine WA.two (i := 3) (j := 16) Q6 ?_ ?_
   ·
    refine WI.call2 (i := 3) hs (fun _ hs => hs.only Q2) Q0 Q0 (Yc.func Q0 fn64) (c_spec_l5Split _ 32 _ (by first | (have := getD_len (s := s) (i := 0); rw [← show x2.l = splitC 59 s from hx2] at this; omega) | (have := getD_len (s := s) (i := 1); rw [← show x2.l = splitC 59 s from hx2] at this; omega) | (have := getD_len (s := s) (i := 2); rw [← show x2.l = splitC 59 s from hx2] at this; omega) | (have := getD_len (s := s) (i := 3); rw [← show x2.l = splitC 59 s from hx2] at this; omega))) ?_
    have hs0 := hs; clear hs; intro v w hb hR hs; clear hs
    obtain ⟨x3, rfl, hx3, hf3⟩ := hR
    obtain ⟨F3, hs⟩ := hf3.sat hs0 hb; clear hs0 hf3
    have hle3 := Sl.Ok.le (hs.okow (x := x3) (F := F3) Q1)
    refine WA.p (i := 4) Q0 Q6 Q6 Q6 Q0 (hs.only Q2) (fun w hs => Yl.slice_sl (s := x3) (l := 1) (h := x3.l.length) slt24 Q0 hle3 (by exact ⟨_, by rfl⟩) (by exact rfl) (by rw [hx3]; exact List.length_pos_iff.2 (splitC_ne _ _)) (by exact Nat.le_refl _)) ?_
    refine WA.two (i := 8) (j := 16) Q6 ?_ ?_
    ·
     refine WI.call2 (i := 8) hs (fun _ hs => hs.only Q2) Q0 Q0 (Yc.func Q0 fn64) (c_spec_l5Split _ 32 _ (by first | (have := getD_len (s := s) (i := 0); rw [← show x2.l = splitC 59 s from hx2] at this; omega) | (have := getD_len (s := s) (i := 1); rw [← show x2.l = splitC 59 s from hx2] at this; omega) | (have := getD_len (s := s) (i := 2); rw [← show x2.l = splitC 59 s from hx2] at this; omega) | (have := getD_len (s := s) (i := 3); rw [← show x2.l = splitC 59 s from hx2] at this; omega))) ?_
     have hs0 := hs; clear hs; intro v w hb hR hs; clear hs
     obtain ⟨x4, rfl, hx4, hf4⟩ := hR
     obtain ⟨F4, hs⟩ := hf4.sat hs0 hb; clear hs0 hf4
     have hle4 := Sl.Ok.le (hs.okow (x := x4) (F := F4) Q1)
     refine WA.p (i := 9) Q0 Q6 Q6 Q6 Q0 (hs.only Q2) (fun w hs => Yl.slice_sl (s := x4) (l := 1) (h := x4.l.length) slt24 Q0 hle4 (by exact ⟨_, by rfl⟩) (by exact rfl) (by rw [hx4]; exact List.length_pos_iff.2 (splitC_ne _ _)) (by exact Nat.le_refl _)) ?_
     refine WA.two (i := 13) (j := 16) Q6 ?_ ?_
     ·
      refine WI.call2 (i := 13) hs (fun _ hs => hs.only Q2) Q0 Q0 (Yc.func Q0 fn64) (c_spec_l5Split _ 32 _ (by first | (have := getD_len (s := s) (i := 0); rw [← show x2.l = splitC 59 s from hx2] at this; omega) | (have := getD_len (s := s) (i := 1); rw [← show x2.l = splitC 59 s from hx2] at this; omega) | (have := getD_len (s := s) (i := 2); rw [← show x2.l = splitC 59 s from hx2] at this; omega) | (have := getD_len (s := s) (i := 3); rw [← show x2.l = splitC 59 s from hx2] at this; omega))) ?_
      have hs0 := hs; clear hs; intro v w hb hR hs; clear hs
      obtain ⟨x5, rfl, hx5, hf5⟩ := hR
      obtain ⟨F5, hs⟩ := hf5.sat hs0 hb; clear hs0 hf5
      have hle5 := Sl.Ok.le (hs.okow (x := x5) (F := F5) Q1)
      refine WA.p (i := 14) Q0 Q6 Q6 Q6 Q0 (hs.only Q2) (fun w hs => Yl.slice_sl (s := x5) (l := 1) (h := x5.l.length) slt24 Q0 hle5 (by exact ⟨_, by rfl⟩) (by exact rfl) (by rw [hx5]; exact List.length_pos_iff.2 (splitC_ne _ _)) (by exact Nat.le_refl _)) ?_
      refine WA.p (i := 15) Q0 Q6 Q6 Q6 Q0 (hs.only Q2) (fun w hs => Yl.build bt26 Q0 Q4) ?_
      refine WA.r (i := 16) Q6 Q0 Q0 (Yr.alloc hs zt26) (by rintro _ w ⟨b6, rfl, hb, hs⟩; exact hs.only Q2) ?_
      clear hs; rintro _ w ⟨b6, rfl, hb, hs⟩; clear hb
      refine WA.s (i := 17) Q6 Q0 (Yr.storeB hs Q0 Q0 Q0 Q5 Q3 Q0 (by exact szf26)) (by rintro _ w hs; exact hs.only Q2) ?_
      clear hs; rintro _ w hs
      refine WA.donen Q6 ?_
      refine WC.seq' ?_
      refine WC.seq ?_
      refine Qm ?_
      refine WL.p Q0 (Yl.len_sl slu24 Q0) ?_
      refine WL.p Q0 (Yl.gtr Q0 Q0) ?_
      refine Qm ?_
      refine WL.split (d := 34) Q0 (fun h3 => ?_) (fun h3 => ?_)
      ·
       replace h3 := of_decide_eq_true h3
       refine WL.run (d := 34) Q0 Q0 ?_
       refine Qm ?_
       refine WL.run (d := 34) Q0 Q0 ?_
       refine WL.p Q0 (Yl.indexAddr (k := 3) slt24 Q0 Q0 (hs.okow (x := x2) (F := F2) Q1) Q0 ((getD_some (i := 3) (z := ([] : Str)) Q7))) ?_
       refine WL.run (d := 34) Q0 Q0 ?_
       refine WL.p Q0 (Yl.loadC0 sca9 Q0 (Sl.Ok.at_ (hs.okow (x := x2) (F := F2) Q1) ((getD_some (i := 3) (z := ([] : Str)) Q7))).2 Q0) ?_
       refine WL.run (d := 34) Q0 Q0 ?_
       refine WL.p Q0 (Yl.len_str str9 Q0) ?_
       refine WL.run (d := 34) Q0 Q0 ?_
       refine WL.p Q0 (Yl.gtr Q0 Q0) ?_
       refine WL.p Q0 (Yl.pickT Q0 Q0) ?_
       refine WL.next ?_
       refine WC.condS Q0 (fun h4 => ?_) (fun h4 => ?_)
       ·
        replace h4 := of_decide_eq_true h4
        refine WC.region ?_
        refine Qm ?_
        refine WL.p Q0 (Yl.indexAddr (k := 3) slt24 Q0 Q0 (hs.okow (x := x2) (F := F2) Q1) Q0 ((getD_some (i := 3) (z := ([] : Str)) Q7))) ?_
        refine WL.p Q0 (Yl.loadC0 sca9 Q0 (Sl.Ok.at_ (hs.okow (x := x2) (F := F2) Q1) ((getD_some (i := 3) (z := ([] : Str)) Q7))).2 Q0) ?_
        refine WL.p Q0 (Yl.slice_str (l := 6) str9 Q0 (by exact ⟨_, by rfl⟩) (by exact rfl) Q7 Q7) ?_
        refine WL.p Q0 (Yl.fieldAddr fa26_4 Q0) ?_
        refine WL.s (Yr.storeB hs Q0 Q0 Q0 Q5 Q3 Q0 (by exact szf9)) ?_
        clear hs; rintro _ w hs
        refine WL.nil ?_
        refine At.then_ ?_
        refine WC.seq' ?_
        refine WC.seq ?_
        refine WL.p Q0 (Yl.loadAB agg26 Q0 hs Q1 Q0 Q0) ?_
        have hpl9 : PPolicy.lg (⟨true, (x3.cut 1 x3.l.length), (x4.cut 1 x4.l.length), (x5.cut 1 x5.l.length), (((x2.l.getD 3 []).drop 6).take ((x2.l.getD 3 []).length - 6))⟩ : PPolicy) = polS s := by
         have e2 : x2.l = splitC 59 s := hx2
         have g0 : x3.l = splitC 32 ((splitC 59 s).getD 0 []) := by rw [← e2]; exact hx3
         have g1 : x4.l = splitC 32 ((splitC 59 s).getD 1 []) := by rw [← e2]; exact hx4
         have g2 : x5.l = splitC 32 ((splitC 59 s).getD 2 []) := by rw [← e2]; exact hx5
         have c0 : (x3.cut 1 x3.l.length).l = (splitC 32 ((splitC 59 s).getD 0 [])).tail := by rw [Sl.cut_full, g0, List.drop_one]
         have c1 : (x4.cut 1 x4.l.length).l = (splitC 32 ((splitC 59 s).getD 1 [])).tail := by rw [Sl.cut_full, g1, List.drop_one]
         have c2 : (x5.cut 1 x5.l.length).l = (splitC 32 ((splitC 59 s).getD 2 [])).tail := by rw [Sl.cut_full, g2, List.drop_one]
         simp only [PPolicy.lg, polS, polOf, c0, c1, c2, TPolicy.mk.injEq, true_and]
         rw [← e2]
         first
          | (rw [if_neg (show ¬ 3 < x2.l.length from fun h => by omega)]; done)
          | (rw [if_pos (show 3 < x2.l.length from Int.ofNat_lt.1 Q7)]; done)
          | (rw [if_pos (show 3 < x2.l.length from Int.ofNat_lt.1 Q7)]
             simp only [nonceS, nonceI]
             first
               | (rfl; done)
               | (rw [if_neg Q7]; done)
               | (rw [if_pos Q7, List.take_of_length_le (by simp)]; done)
               | (rw [if_pos Q7]; done))
        refine WL.callp hs Q0 (Yc.func Q0 fn62) (c_spec_FormatPolicy (⟨true, (x3.cut 1 x3.l.length), (x4.cut 1 x4.l.length), (x5.cut 1 x5.l.length), (((x2.l.getD 3 []).drop 6).take ((x2.l.getD 3 []).length - 6))⟩ : PPolicy) _ ⟨trivial, (Sl.Ok.cut (hs.okow (x := x3) (F := F3) Q1) (by rw [hx3]; exact List.length_pos_iff.2 (splitC_ne _ _)) (by exact Nat.le_refl _)), (Sl.Ok.cut (hs.okow (x := x4) (F := F4) Q1) (by rw [hx4]; exact List.length_pos_iff.2 (splitC_ne _ _)) (by exact Nat.le_refl _)), (Sl.Ok.cut (hs.okow (x := x5) (F := F5) Q1) (by rw [hx5]; exact List.length_pos_iff.2 (splitC_ne _ _)) (by exact Nat.le_refl _)), (by show WfS _; unfold WfS; simp only [List.length_take, List.length_drop]; omega)⟩ (by rw [hpl9]; have := polS_size (s := s) (by rw [← show x2.l = splitC 59 s from hx2]; omega); omega)) ?_
        clear hs; intro w hs
        refine Qm ?_
        refine WL.p Q0 (Yl.nes Q0 Q0) ?_
        refine WL.next ?_
        refine WC.condS Q0 (fun h5 => ?_) (fun h5 => ?_)
        ·
         replace h5 := not_eq_true h5
         replace h5 := of_decide_eq_false h5
         refine WC.seq ?_
         refine WL.p Q0 (Yl.build bt26 Q0 Q4) ?_
         refine WL.s (Yr.storeB hs Q0 Q0 Q0 Q5 Q3 Q0 (by exact szf26)) ?_
         clear hs; rintro _ w hs
         refine Qa ?_
         refine WL.next ?_
         refine WC.ret ?_
         refine At.thenret ?_
         refine fin2c rfl agg26 Q0 Q0 hs Q1 Q0 ?_
         refine Ret.mk hs ?_
         rw [hpl9] at h5
         have hb9 : policyIs s = false := policyIs_bad h1 h5
         exact ⟨⟨false, ⟨[], none, 0⟩, ⟨[], none, 0⟩, ⟨[], none, 0⟩, []⟩, by rw [hb9]; rfl, (policyOf_no (.inr hb9)).symm, ⟨⟨[], PPolicy.zown _, .nil, fun b h => by cases h⟩⟩⟩
        ·
         replace h5 := not_eq_false h5
         replace h5 := of_decide_eq_true h5
         refine WC.skipn ?_
         refine WC.seq ?_
         refine WL.p Q0 (Yl.loadAB agg26 Q0 hs Q1 Q0 Q0) ?_
         refine WL.s (Yr.storeB hs Q0 Q0 Q0 Q5 Q3 Q0 (by exact szf26)) ?_
         clear hs; rintro _ w hs
         refine Qa ?_
         refine WL.next ?_
         refine WC.ret ?_
         refine fin2c rfl agg26 Q0 Q0 hs Q1 Q0 ?_
         refine Ret.mk hs ?_
         rw [hpl9] at h5
         have hq9 : x2.l = splitC 59 s := hx2
         have h49 : 3 ≤ (splitC 59 s).length := by rw [← hq9]; omega
         have hb9 : policyIs s = true := policyIs_good h5 h49
         obtain ⟨G90, hs⟩ := Sat.cutow (lo := 1) (hi := x3.l.length) (hs.sel (D := [ow x3 F3]) Q2) (by rw [hx3]; exact List.length_pos_iff.2 (splitC_ne _ _)) (Nat.le_refl _)
         obtain ⟨G91, hs⟩ := Sat.cutow (lo := 1) (hi := x4.l.length) (hs.sel (D := [ow x4 F4]) Q2) (by rw [hx4]; exact List.length_pos_iff.2 (splitC_ne _ _)) (Nat.le_refl _)
         obtain ⟨G92, hs⟩ := Sat.cutow (lo := 1) (hi := x5.l.length) (hs.sel (D := [ow x5 F5]) Q2) (by rw [hx5]; exact List.length_pos_iff.2 (splitC_ne _ _)) (Nat.le_refl _)
         refine ⟨(⟨true, (x3.cut 1 x3.l.length), (x4.cut 1 x4.l.length), (x5.cut 1 x5.l.length), (((x2.l.getD 3 []).drop 6).take ((x2.l.getD 3 []).length - 6))⟩ : PPolicy), by rw [hb9]; rfl, hpl9.trans (policyOf_good h1 hb9).symm, ?_⟩
         exact (PPolicy.join _ (hs.only (D := [ow (x3.cut 1 x3.l.length) G90, ow (x4.cut 1 x4.l.length) G91, ow (x5.cut 1 x5.l.length) G92]) Q2) trivial (by show WfS _; unfold WfS; first | (simp only [List.length_take, List.length_drop]; omega) | simp)).fresh List.mem_cons_self
       ·
        replace h4 := of_decide_eq_false h4
        refine WC.skipn ?_
        refine WC.seq' ?_
        refine WC.seq ?_
        refine WL.p Q0 (Yl.loadAB agg26 Q0 hs Q1 Q0 Q0) ?_
        have hpl9 : PPolicy.lg (⟨true, (x3.cut 1 x3.l.length), (x4.cut 1 x4.l.length), (x5.cut 1 x5.l.length), ([] : Str)⟩ : PPolicy) = polS s := by
         have e2 : x2.l = splitC 59 s := hx2
         have g0 : x3.l = splitC 32 ((splitC 59 s).getD 0 []) := by rw [← e2]; exact hx3
         have g1 : x4.l = splitC 32 ((splitC 59 s).getD 1 []) := by rw [← e2]; exact hx4
         have g2 : x5.l = splitC 32 ((splitC 59 s).getD 2 []) := by rw [← e2]; exact hx5
         have c0 : (x3.cut 1 x3.l.length).l = (splitC 32 ((splitC 59 s).getD 0 [])).tail := by rw [Sl.cut_full, g0, List.drop_one]
         have c1 : (x4.cut 1 x4.l.length).l = (splitC 32 ((splitC 59 s).getD 1 [])).tail := by rw [Sl.cut_full, g1, List.drop_one]
         have c2 : (x5.cut 1 x5.l.length).l = (splitC 32 ((splitC 59 s).getD 2 [])).tail := by rw [Sl.cut_full, g2, List.drop_one]
         simp only [PPolicy.lg, polS, polOf, c0, c1, c2, TPolicy.mk.injEq, true_and]
         rw [← e2]
         first
          | (rw [if_neg (show ¬ 3 < x2.l.length from fun h => by omega)]; done)
          | (rw [if_pos (show 3 < x2.l.length from Int.ofNat_lt.1 Q7)]; done)
          | (rw [if_pos (show 3 < x2.l.length from Int.ofNat_lt.1 Q7)]
             simp only [nonceS, nonceI]
             first
               | (rfl; done)
               | (rw [if_neg Q7]; done)
               | (rw [if_pos Q7, List.take_of_length_le (by simp)]; done)
               | (rw [if_pos Q7]; done))
        refine WL.callp hs Q0 (Yc.func Q0 fn62) (c_spec_FormatPolicy (⟨true, (x3.cut 1 x3.l.length), (x4.cut 1 x4.l.length), (x5.cut 1 x5.l.length), ([] : Str)⟩ : PPolicy) _ ⟨trivial, (Sl.Ok.cut (hs.okow (x := x3) (F := F3) Q1) (by rw [hx3]; exact List.length_pos_iff.2 (splitC_ne _ _)) (by exact Nat.le_refl _)), (Sl.Ok.cut (hs.okow (x := x4) (F := F4) Q1) (by rw [hx4]; exact List.length_pos_iff.2 (splitC_ne _ _)) (by exact Nat.le_refl _)), (Sl.Ok.cut (hs.okow (x := x5) (F := F5) Q1) (by rw [hx5]; exact List.length_pos_iff.2 (splitC_ne _ _)) (by exact Nat.le_refl _)), (show WfS [] from Nat.zero_le _)⟩ (by rw [hpl9]; have := polS_size (s := s) (by rw [← show x2.l = splitC 59 s from hx2]; omega); omega)) ?_
        clear hs; intro w hs
        refine Qm ?_
        refine WL.p Q0 (Yl.nes Q0 Q0) ?_
        refine WL.next ?_
        refine WC.condS Q0 (fun h5 => ?_) (fun h5 => ?_)
        ·
         replace h5 := not_eq_true h5
         replace h5 := of_decide_eq_false h5
         refine WC.seq ?_
         refine WL.p Q0 (Yl.build bt26 Q0 Q4) ?_
         refine WL.s (Yr.storeB hs Q0 Q0 Q0 Q5 Q3 Q0 (by exact szf26)) ?_
         clear hs; rintro _ w hs
         refine Qa ?_
         refine WL.next ?_
         refine WC.ret ?_
         refine At.thenret ?_
         refine fin2c rfl agg26 Q0 Q0 hs Q1 Q0 ?_
         refine Ret.mk hs ?_
         rw [hpl9] at h5
         have hb9 : policyIs s = false := policyIs_bad h1 h5
         exact ⟨⟨false, ⟨[], none, 0⟩, ⟨[], none, 0⟩, ⟨[], none, 0⟩, []⟩, by rw [hb9]; rfl, (policyOf_no (.inr hb9)).symm, ⟨⟨[], PPolicy.zown _, .nil, fun b h => by cases h⟩⟩⟩
        ·
         replace h5 := not_eq_false h5
         replace h5 := of_decide_eq_true h5
         refine WC.skipn ?_
         refine WC.seq ?_
         refine WL.p Q0 (Yl.loadAB agg26 Q0 hs Q1 Q0 Q0) ?_
         refine WL.s (Yr.storeB hs Q0 Q0 Q0 Q5 Q3 Q0 (by exact szf26)) ?_
         clear hs; rintro _ w hs
         refine Qa ?_
         refine WL.next ?_
         refine WC.ret ?_
         refine fin2c rfl agg26 Q0 Q0 hs Q1 Q0 ?_
         refine Ret.mk hs ?_
         rw [hpl9] at h5
         have hq9 : x2.l = splitC 59 s := hx2
         have h49 : 3 ≤ (splitC 59 s).length := by rw [← hq9]; omega
         have hb9 : policyIs s = true := policyIs_good h5 h49
         obtain ⟨G90, hs⟩ := Sat.cutow (lo := 1) (hi := x3.l.length) (hs.sel (D := [ow x3 F3]) Q2) (by rw [hx3]; exact List.length_pos_iff.2 (splitC_ne _ _)) (Nat.le_refl _)
         obtain ⟨G91, hs⟩ := Sat.cutow (lo := 1) (hi := x4.l.length) (hs.sel (D := [ow x4 F4]) Q2) (by rw [hx4]; exact List.length_pos_iff.2 (splitC_ne _ _)) (Nat.le_refl _)
         obtain ⟨G92, hs⟩ := Sat.cutow (lo := 1) (hi := x5.l.length) (hs.sel (D := [ow x5 F5]) Q2) (by rw [hx5]; exact List.length_pos_iff.2 (splitC_ne _ _)) (Nat.le_refl _)
         refine ⟨(⟨true, (x3.cut 1 x3.l.length), (x4.cut 1 x4.l.length), (x5.cut 1 x5.l.length), ([] : Str)⟩ : PPolicy), by rw [hb9]; rfl, hpl9.trans (policyOf_good h1 hb9).symm, ?_⟩
         exact (PPolicy.join _ (hs.only (D := [ow (x3.cut 1 x3.l.length) G90, ow (x4.cut 1 x4.l.length) G91, ow (x5.cut 1 x5.l.length) G92]) Q2) trivial (by show WfS _; unfold WfS; first | (simp only [List.length_take, List.length_drop]; omega) | simp)).fresh List.mem_cons_self
      ·
       replace h3 := of_decide_eq_false h3
       refine WL.skip (d := 34) Q0 Q0 Q0 Q0 ?_
       refine WL.skip (d := 34) Q0 Q0 Q0 Q0 ?_
       refine WL.skip (d := 34) Q0 Q0 Q0 Q0 ?_
       refine WL.skip (d := 34) Q0 Q0 Q0 Q0 ?_
       refine WL.skip (d := 34) Q0 Q0 Q0 Q0 ?_
       refine WL.p Q0 (Yl.pickF Q0 Q0) ?_
       refine WL.next ?_
       refine WC.condF Q0 ?_
       refine WC.skipn ?_
       refine WC.seq' ?_
       refine WC.seq ?_
       refine WL.p Q0 (Yl.loadAB agg26 Q0 hs Q1 Q0 Q0) ?_
       have hpl9 : PPolicy.lg (⟨true, (x3.cut 1 x3.l.length), (x4.cut 1 x4.l.length), (x5.cut 1 x5.l.length), ([] : Str)⟩ : PPolicy) = polS s := by
        have e2 : x2.l = splitC 59 s := hx2
        have g0 : x3.l = splitC 32 ((splitC 59 s).getD 0 []) := by rw [← e2]; exact hx3
        have g1 : x4.l = splitC 32 ((splitC 59 s).getD 1 []) := by rw [← e2]; exact hx4
        have g2 : x5.l = splitC 32 ((splitC 59 s).getD 2 []) := by rw [← e2]; exact hx5
        have c0 : (x3.cut 1 x3.l.length).l = (splitC 32 ((splitC 59 s).getD 0 [])).tail := by rw [Sl.cut_full, g0, List.drop_one]
        have c1 : (x4.cut 1 x4.l.length).l = (splitC 32 ((splitC 59 s).getD 1 [])).tail := by rw [Sl.cut_full, g1, List.drop_one]
        have c2 : (x5.cut 1 x5.l.length).l = (splitC 32 ((splitC 59 s).getD 2 [])).tail := by rw [Sl.cut_full, g2, List.drop_one]
        simp only [PPolicy.lg, polS, polOf, c0, c1, c2, TPolicy.mk.injEq, true_and]
        rw [← e2]
        first
         | (rw [if_neg (show ¬ 3 < x2.l.length from fun h => by omega)]; done)
         | (rw [if_pos (show 3 < x2.l.length from Int.ofNat_lt.1 Q7)]; done)
         | (rw [if_pos (show 3 < x2.l.length from Int.ofNat_lt.1 Q7)]
            simp only [nonceS, nonceI]
            first
              | (rfl; done)
              | (rw [if_neg Q7]; done)
              | (rw [if_pos Q7, List.take_of_length_le (by simp)]; done)
              | (rw [if_pos Q7]; done))
       refine WL.callp hs Q0 (Yc.func Q0 fn62) (c_spec_FormatPolicy (⟨true, (x3.cut 1 x3.l.length), (x4.cut 1 x4.l.length), (x5.cut 1 x5.l.length), ([] : Str)⟩ : PPolicy) _ ⟨trivial, (Sl.Ok.cut (hs.okow (x := x3) (F := F3) Q1) (by rw [hx3]; exact List.length_pos_iff.2 (splitC_ne _ _)) (by exact Nat.le_refl _)), (Sl.Ok.cut (hs.okow (x := x4) (F := F4) Q1) (by rw [hx4]; exact List.length_pos_iff.2 (splitC_ne _ _)) (by exact Nat.le_refl _)), (Sl.Ok.cut (hs.okow (x := x5) (F := F5) Q1) (by rw [hx5]; exact List.length_pos_iff.2 (splitC_ne _ _)) (by exact Nat.le_refl _)), (show WfS [] from Nat.zero_le _)⟩ (by rw [hpl9]; have := polS_size (s := s) (by rw [← show x2.l = splitC 59 s from hx2]; omega); omega)) ?_
       clear hs; intro w hs
       refine Qm ?_
       refine WL.p Q0 (Yl.nes Q0 Q0) ?_
       refine WL.next ?_
       refine WC.condS Q0 (fun h4 => ?_) (fun h4 => ?_)
       ·
        replace h4 := not_eq_true h4
        replace h4 := of_decide_eq_false h4
        refine WC.seq ?_
        refine WL.p Q0 (Yl.build bt26 Q0 Q4) ?_
        refine WL.s (Yr.storeB hs Q0 Q0 Q0 Q5 Q3 Q0 (by exact szf26)) ?_
        clear hs; rintro _ w hs
        refine Qa ?_
        refine WL.next ?_
        refine WC.ret ?_
        refine At.thenret ?_
        refine fin2c rfl agg26 Q0 Q0 hs Q1 Q0 ?_
        refine Ret.mk hs ?_
        rw [hpl9] at h4
        have hb9 : policyIs s = false := policyIs_bad h1 h4
        exact ⟨⟨false, ⟨[], none, 0⟩, ⟨[], none, 0⟩, ⟨[], none, 0⟩, []⟩, by rw [hb9]; rfl, (policyOf_no (.inr hb9)).symm, ⟨⟨[], PPolicy.zown _, .nil, fun b h => by cases h⟩⟩⟩
       ·
        replace h4 := not_eq_false h4
        replace h4 := of_decide_eq_true h4
        refine WC.skipn ?_
        refine WC.seq ?_
        refine WL.p Q0 (Yl.loadAB agg26 Q0 hs Q1 Q0 Q0) ?_
        refine WL.s (Yr.storeB hs Q0 Q0 Q0 Q5 Q3 Q0 (by exact szf26)) ?_
        clear hs; rintro _ w hs
        refine Qa ?_
        refine WL.next ?_
        refine WC.ret ?_
        refine fin2c rfl agg26 Q0 Q0 hs Q1 Q0 ?_
        refine Ret.mk hs ?_
        rw [hpl9] at h4
        have hq9 : x2.l = splitC 59 s := hx2
        have h49 : 3 ≤ (splitC 59 s).length := by rw [← hq9]; omega
        have hb9 : policyIs s = true := policyIs_good h4 h49
        obtain ⟨G90, hs⟩ := Sat.cutow (lo := 1) (hi := x3.l.length) (hs.sel (D := [ow x3 F3]) Q2) (by rw [hx3]; exact List.length_pos_iff.2 (splitC_ne _ _)) (Nat.le_refl _)
        obtain ⟨G91, hs⟩ := Sat.cutow (lo := 1) (hi := x4.l.length) (hs.sel (D := [ow x4 F4]) Q2) (by rw [hx4]; exact List.length_pos_iff.2 (splitC_ne _ _)) (Nat.le_refl _)
        obtain ⟨G92, hs⟩ := Sat.cutow (lo := 1) (hi := x5.l.length) (hs.sel (D := [ow x5 F5]) Q2) (by rw [hx5]; exact List.length_pos_iff.2 (splitC_ne _ _)) (Nat.le_refl _)
        refine ⟨(⟨true, (x3.cut 1 x3.l.length), (x4.cut 1 x4.l.length), (x5.cut 1 x5.l.length), ([] : Str)⟩ : PPolicy), by rw [hb9]; rfl, hpl9.trans (policyOf_good h1 hb9).symm, ?_⟩
        exact (PPolicy.join _ (hs.only (D := [ow (x3.cut 1 x3.l.length) G90, ow (x4.cut 1 x4.l.length) G91, ow (x5.cut 1 x5.l.length) G92]) Q2) trivial (by show WfS _; unfold WfS; first | (simp only [List.length_take, List.length_drop]; omega) | simp)).fresh List.mem_cons_self
     ·
      refine WI.r (i := 16) Q0 Q0 (Yr.alloc hs zt26) (by rintro _ w ⟨b7, rfl, hb, hs⟩; exact hs.only Q2) ?_
      clear hs; rintro _ w ⟨b7, rfl, hb, hs⟩; clear hb
      refine WA.call2 (i := 13) hs (fun _ hs => hs.only Q2) Q6 Q0 Q0 (Yc.func Q0 fn64) (c_spec_l5Split _ 32 _ (by first | (have := getD_len (s := s) (i := 0); rw [← show x2.l = splitC 59 s from hx2] at this; omega) | (have := getD_len (s := s) (i := 1); rw [← show x2.l = splitC 59 s from hx2] at this; omega) | (have := getD_len (s := s) (i := 2); rw [← show x2.l = splitC 59 s from hx2] at this; omega) | (have := getD_len (s := s) (i := 3); rw [← show x2.l = splitC 59 s from hx2] at this; omega))) ?_
      have hs0 := hs; clear hs; intro v w hb hR hs; clear hs
      obtain ⟨x8, rfl, hx8, hf8⟩ := hR
      obtain ⟨F8, hs⟩ := hf8.sat hs0 hb; clear hs0 hf8
      have hle8 := Sl.Ok.le (hs.okow (x := x8) (F := F8) Q1)
      refine WA.r (i := 14) Q6 Q0 Q0 (Yl.yr (Yl.slice_sl (s := x8) (l := 1) (h := x8.l.length) slt24 Q0 hle8 (by exact ⟨_, by rfl⟩) (by exact rfl) (by rw [hx8]; exact List.length_pos_iff.2 (splitC_ne _ _)) (by exact Nat.le_refl _))) (by rintro _ _ ⟨rfl, rfl⟩; exact hs.only Q2) ?_
      rintro _ _ ⟨rfl, rfl⟩
      refine WA.p (i := 15) Q0 Q6 Q6 Q6 Q0 (hs.only Q2) (fun w hs => Yl.build bt26 Q0 Q4) ?_
      refine WA.s (i := 17) Q6 Q0 (Yr.storeB hs Q0 Q0 Q0 Q5 Q3 Q0 (by exact szf26)) (by rintro _ w hs; exact hs.only Q2) ?_
      clear hs; rintro _ w hs
      refine WA.donen Q6 ?_
      refine WC.seq' ?_
      refine WC.seq ?_
      refine Qm ?_
      refine WL.p Q0 (Yl.len_sl slu24 Q0) ?_
      refine WL.p Q0 (Yl.gtr Q0 Q0) ?_
      refine Qm ?_
      refine WL.split (d := 34) Q0 (fun h3 => ?_) (fun h3 => ?_)
      ·
       replace h3 := of_decide_eq_true h3
       refine WL.run (d := 34) Q0 Q0 ?_
       refine Qm ?_
       refine WL.run (d := 34) Q0 Q0 ?_
       refine WL.p Q0 (Yl.indexAddr (k := 3) slt24 Q0 Q0 (hs.okow (x := x2) (F := F2) Q1) Q0 ((getD_some (i := 3) (z := ([] : Str)) Q7))) ?_
       refine WL.run (d := 34) Q0 Q0 ?_
       refine WL.p Q0 (Yl.loadC0 sca9 Q0 (Sl.Ok.at_ (hs.okow (x := x2) (F := F2) Q1) ((getD_some (i := 3) (z := ([] : Str)) Q7))).2 Q0) ?_
       refine WL.run (d := 34) Q0 Q0 ?_
       refine WL.p Q0 (Yl.len_str str9 Q0) ?_
       refine WL.run (d := 34) Q0 Q0 ?_
       refine WL.p Q0 (Yl.gtr Q0 Q0) ?_
       refine WL.p Q0 (Yl.pickT Q0 Q0) ?_
       refine WL.next ?_
       refine WC.condS Q0 (fun h4 => ?_) (fun h4 => ?_)
       ·
        replace h4 := of_decide_eq_true h4
        refine WC.region ?_
        refine Qm ?_
        refine WL.p Q0 (Yl.indexAddr (k := 3) slt24 Q0 Q0 (hs.okow (x := x2) (F := F2) Q1) Q0 ((getD_some (i := 3) (z := ([] : Str)) Q7))) ?_
        refine WL.p Q0 (Yl.loadC0 sca9 Q0 (Sl.Ok.at_ (hs.okow (x := x2) (F := F2) Q1) ((getD_some (i := 3) (z := ([] : Str)) Q7))).2 Q0) ?_
        refine WL.p Q0 (Yl.slice_str (l := 6) str9 Q0 (by exact ⟨_, by rfl⟩) (by exact rfl) Q7 Q7) ?_
        refine WL.p Q0 (Yl.fieldAddr fa26_4 Q0) ?_
        refine WL.s (Yr.storeB hs Q0 Q0 Q0 Q5 Q3 Q0 (by exact szf9)) ?_
        clear hs; rintro _ w hs
        refine WL.nil ?_
        refine At.then_ ?_
        refine WC.seq' ?_
        refine WC.seq ?_
        refine WL.p Q0 (Yl.loadAB agg26 Q0 hs Q1 Q0 Q0) ?_
        have hpl9 : PPolicy.lg (⟨true, (x3.cut 1 x3.l.length), (x4.cut 1 x4.l.length), (x8.cut 1 x8.l.length), (((x2.l.getD 3 []).drop 6).take ((x2.l.getD 3 []).length - 6))⟩ : PPolicy) = polS s := by
         have e2 : x2.l = splitC 59 s := hx2
         have g0 : x3.l = splitC 32 ((splitC 59 s).getD 0 []) := by rw [← e2]; exact hx3
         have g1 : x4.l = splitC 32 ((splitC 59 s).getD 1 []) := by rw [← e2]; exact hx4
         have g2 : x8.l = splitC 32 ((splitC 59 s).getD 2 []) := by rw [← e2]; exact hx8
         have c0 : (x3.cut 1 x3.l.length).l = (splitC 32 ((splitC 59 s).getD 0 [])).tail := by rw [Sl.cut_full, g0, List.drop_one]
         have c1 : (x4.cut 1 x4.l.length).l = (splitC 32 ((splitC 59 s).getD 1 [])).tail := by rw [Sl.cut_full, g1, List.drop_one]
         have c2 : (x8.cut 1 x8.l.length).l = (splitC 32 ((splitC 59 s).getD 2 [])).tail := by rw [Sl.cut_full, g2, List.drop_one]
         simp only [PPolicy.lg, polS, polOf, c0, c1, c2, TPolicy.mk.injEq, true_and]
         rw [← e2]
         first
          | (rw [if_neg (show ¬ 3 < x2.l.length from fun h => by omega)]; done)
          | (rw [if_pos (show 3 < x2.l.length from Int.ofNat_lt.1 Q7)]; done)
          | (rw [if_pos (show 3 < x2.l.length from Int.ofNat_lt.1 Q7)]
             simp only [nonceS, nonceI]
             first
               | (rfl; done)
               | (rw [if_neg Q7]; done)
               | (rw [if_pos Q7, List.take_of_length_le (by simp)]; done)
               | (rw [if_pos Q7]; done))
        refine WL.callp hs Q0 (Yc.func Q0 fn62) (c_spec_FormatPolicy (⟨true, (x3.cut 1 x3.l.length), (x4.cut 1 x4.l.length), (x8.cut 1 x8.l.length), (((x2.l.getD 3 []).drop 6).take ((x2.l.getD 3 []).length - 6))⟩ : PPolicy) _ ⟨trivial, (Sl.Ok.cut (hs.okow (x := x3) (F := F3) Q1) (by rw [hx3]; exact List.length_pos_iff.2 (splitC_ne _ _)) (by exact Nat.le_refl _)), (Sl.Ok.cut (hs.okow (x := x4) (F := F4) Q1) (by rw [hx4]; exact List.length_pos_iff.2 (splitC_ne _ _)) (by exact Nat.le_refl _)), (Sl.Ok.cut (hs.okow (x := x8) (F := F8) Q1) (by rw [hx8]; exact List.length_pos_iff.2 (splitC_ne _ _)) (by exact Nat.le_refl _)), (by show WfS _; unfold WfS; simp only [List.length_take, List.length_drop]; omega)⟩ (by rw [hpl9]; have := polS_size (s := s) (by rw [← show x2.l = splitC 59 s from hx2]; omega); omega)) ?_
        clear hs; intro w hs
        refine Qm ?_
        refine WL.p Q0 (Yl.nes Q0 Q0) ?_
        refine WL.next ?_
        refine WC.condS Q0 (fun h5 => ?_) (fun h5 => ?_)
        ·
         replace h5 := not_eq_true h5
         replace h5 := of_decide_eq_false h5
         refine WC.seq ?_
         refine WL.p Q0 (Yl.build bt26 Q0 Q4) ?_
         refine WL.s (Yr.storeB hs Q0 Q0 Q0 Q5 Q3 Q0 (by exact szf26)) ?_
         clear hs; rintro _ w hs
         refine Qa ?_
         refine WL.next ?_
         refine WC.ret ?_
         refine At.thenret ?_
         refine fin2c rfl agg26 Q0 Q0 hs Q1 Q0 ?_
         refine Ret.mk hs ?_
         rw [hpl9] at h5
         have hb9 : policyIs s = false := policyIs_bad h1 h5
         exact ⟨⟨false, ⟨[], none, 0⟩, ⟨[], none, 0⟩, ⟨[], none, 0⟩, []⟩, by rw [hb9]; rfl, (policyOf_no (.inr hb9)).symm, ⟨⟨[], PPolicy.zown _, .nil, fun b h => by cases h⟩⟩⟩
        ·
         replace h5 := not_eq_false h5
         replace h5 := of_decide_eq_true h5
         refine WC.skipn ?_
         refine WC.seq ?_
         refine WL.p Q0 (Yl.loadAB agg26 Q0 hs Q1 Q0 Q0) ?_
         refine WL.s (Yr.storeB hs Q0 Q0 Q0 Q5 Q3 Q0 (by exact szf26)) ?_
         clear hs; rintro _ w hs
         refine Qa ?_
         refine WL.next ?_
         refine WC.ret ?_
         refine fin2c rfl agg26 Q0 Q0 hs Q1 Q0 ?_
         refine Ret.mk hs ?_
         rw [hpl9] at h5
         have hq9 : x2.l = splitC 59 s := hx2
         have h49 : 3 ≤ (splitC 59 s).length := by rw [← hq9]; omega
         have hb9 : policyIs s = true := policyIs_good h5 h49
         obtain ⟨G90, hs⟩ := Sat.cutow (lo := 1) (hi := x3.l.length) (hs.sel (D := [ow x3 F3]) Q2) (by rw [hx3]; exact List.length_pos_iff.2 (splitC_ne _ _)) (Nat.le_refl _)
         obtain ⟨G91, hs⟩ := Sat.cutow (lo := 1) (hi := x4.l.length) (hs.sel (D := [ow x4 F4]) Q2) (by rw [hx4]; exact List.length_pos_iff.2 (splitC_ne _ _)) (Nat.le_refl _)
         obtain ⟨G92, hs⟩ := Sat.cutow (lo := 1) (hi := x8.l.length) (hs.sel (D := [ow x8 F8]) Q2) (by rw [hx8]; exact List.length_pos_iff.2 (splitC_ne _ _)) (Nat.le_refl _)
         refine ⟨(⟨true, (x3.cut 1 x3.l.length), (x4.cut 1 x4.l.length), (x8.cut 1 x8.l.length), (((x2.l.getD 3 []).drop 6).take ((x2.l.getD 3 []).length - 6))⟩ : PPolicy), by rw [hb9]; rfl, hpl9.trans (policyOf_good h1 hb9).symm, ?_⟩
         exact (PPolicy.join _ (hs.only (D := [ow (x3.cut 1 x3.l.length) G90, ow (x4.cut 1 x4.l.length) G91, ow (x8.cut 1 x8.l.length) G92]) Q2) trivial (by show WfS _; unfold WfS; first | (simp only [List.length_take, List.length_drop]; omega) | simp)).fresh List.mem_cons_self
       ·
        replace h4 := of_decide_eq_false h4
        refine WC.skipn ?_
        refine WC.seq' ?_
        refine WC.seq ?_
        refine WL.p Q0 (Yl.loadAB agg26 Q0 hs Q1 Q0 Q0) ?_
        have hpl9 : PPolicy.lg (⟨true, (x3.cut 1 x3.l.length), (x4.cut 1 x4.l.length), (x8.cut 1 x8.l.length), ([] : Str)⟩ : PPolicy) = polS s := by
         have e2 : x2.l = splitC 59 s := hx2
         have g0 : x3.l = splitC 32 ((splitC 59 s).getD 0 []) := by rw [← e2]; exact hx3
         have g1 : x4.l = splitC 32 ((splitC 59 s).getD 1 []) := by rw [← e2]; exact hx4
         have g2 : x8.l = splitC 32 ((splitC 59 s).getD 2 []) := by rw [← e2]; exact hx8
         have c0 : (x3.cut 1 x3.l.length).l = (splitC 32 ((splitC 59 s).getD 0 [])).tail := by rw [Sl.cut_full, g0, List.drop_one]
         have c1 : (x4.cut 1 x4.l.length).l = (splitC 32 ((splitC 59 s).getD 1 [])).tail := by rw [Sl.cut_full, g1, List.drop_one]
         have c2 : (x8.cut 1 x8.l.length).l = (splitC 32 ((splitC 59 s).getD 2 [])).tail := by rw [Sl.cut_full, g2, List.drop_one]
         simp only [PPolicy.lg, polS, polOf, c0, c1, c2, TPolicy.mk.injEq, true_and]
         rw [← e2]
         first
          | (rw [if_neg (show ¬ 3 < x2.l.length from fun h => by omega)]; done)
          | (rw [if_pos (show 3 < x2.l.length from Int.ofNat_lt.1 Q7)]; done)
          | (rw [if_pos (show 3 < x2.l.length from Int.ofNat_lt.1 Q7)]
             simp only [nonceS, nonceI]
             first
               | (rfl; done)
               | (rw [if_neg Q7]; done)
               | (rw [if_pos Q7, List.take_of_length_le (by simp)]; done)
               | (rw [if_pos Q7]; done))
        refine WL.callp hs Q0 (Yc.func Q0 fn62) (c_spec_FormatPolicy (⟨true, (x3.cut 1 x3.l.length), (x4.cut 1 x4.l.length), (x8.cut 1 x8.l.length), ([] : Str)⟩ : PPolicy) _ ⟨trivial, (Sl.Ok.cut (hs.okow (x := x3) (F := F3) Q1) (by rw [hx3]; exact List.length_pos_iff.2 (splitC_ne _ _)) (by exact Nat.le_refl _)), (Sl.Ok.cut (hs.okow (x := x4) (F := F4) Q1) (by rw [hx4]; exact List.length_pos_iff.2 (splitC_ne _ _)) (by exact Nat.le_refl _)), (Sl.Ok.cut (hs.okow (x := x8) (F := F8) Q1) (by rw [hx8]; exact List.length_pos_iff.2 (splitC_ne _ _)) (by exact Nat.le_refl _)), (show WfS [] from Nat.zero_le _)⟩ (by rw [hpl9]; have := polS_size (s := s) (by rw [← show x2.l = splitC 59 s from hx2]; omega); omega)) ?_
        clear hs; intro w hs
        refine Qm ?_
        refine WL.p Q0 (Yl.nes Q0 Q0) ?_
        refine WL.next ?_
        refine WC.condS Q0 (fun h5 => ?_) (fun h5 => ?_)
        ·
         replace h5 := not_eq_true h5
         replace h5 := of_decide_eq_false h5
         refine WC.seq ?_
         refine WL.p Q0 (Yl.build bt26 Q0 Q4) ?_
         refine WL.s (Yr.storeB hs Q0 Q0 Q0 Q5 Q3 Q0 (by exact szf26)) ?_
         clear hs; rintro _ w hs
         refine Qa ?_
         refine WL.next ?_
         refine WC.ret ?_
         refine At.thenret ?_
         refine fin2c rfl agg26 Q0 Q0 hs Q1 Q0 ?_
         refine Ret.mk hs ?_
         rw [hpl9] at h5
         have hb9 : policyIs s = false := policyIs_bad h1 h5
         exact ⟨⟨false, ⟨[], none, 0⟩, ⟨[], none, 0⟩, ⟨[], none, 0⟩, []⟩, by rw [hb9]; rfl, (policyOf_no (.inr hb9)).symm, ⟨⟨[], PPolicy.zown _, .nil, fun b h => by cases h⟩⟩⟩
        ·
         replace h5 := not_eq_false h5
         replace h5 := of_decide_eq_true h5
         refine WC.skipn ?_
         refine WC.seq ?_
         refine WL.p Q0 (Yl.loadAB agg26 Q0 hs Q1 Q0 Q0) ?_
         refine WL.s (Yr.storeB hs Q0 Q0 Q0 Q5 Q3 Q0 (by exact szf26)) ?_
         clear hs; rintro _ w hs
         refine Qa ?_
         refine WL.next ?_
         refine WC.ret ?_
         refine fin2c rfl agg26 Q0 Q0 hs Q1 Q0 ?_
         refine Ret.mk hs ?_
         rw [hpl9] at h5
         have hq9 : x2.l = splitC 59 s := hx2
         have h49 : 3 ≤ (splitC 59 s).length := by rw [← hq9]; omega
         have hb9 : policyIs s = true := policyIs_good h5 h49
         obtain ⟨G90, hs⟩ := Sat.cutow (lo := 1) (hi := x3.l.length) (hs.sel (D := [ow x3 F3]) Q2) (by rw [hx3]; exact List.length_pos_iff.2 (splitC_ne _ _)) (Nat.le_refl _)
         obtain ⟨G91, hs⟩ := Sat.cutow (lo := 1) (hi := x4.l.length) (hs.sel (D := [ow x4 F4]) Q2) (by rw [hx4]; exact List.length_pos_iff.2 (splitC_ne _ _)) (Nat.le_refl _)
         obtain ⟨G92, hs⟩ := Sat.cutow (lo := 1) (hi := x8.l.length) (hs.sel (D := [ow x8 F8]) Q2) (by rw [hx8]; exact List.length_pos_iff.2 (splitC_ne _ _)) (Nat.le_refl _)
         refine ⟨(⟨true, (x3.cut 1 x3.l.length), (x4.cut 1 x4.l.length), (x8.cut 1 x8.l.length), ([] : Str)⟩ : PPolicy), by rw [hb9]; rfl, hpl9.trans (policyOf_good h1 hb9).symm, ?_⟩
         exact (PPolicy.join _ (hs.only (D := [ow (x3.cut 1 x3.l.length) G90, ow (x4.cut 1 x4.l.length) G91, ow (x8.cut 1 x8.l.length) G92]) Q2) trivial (by show WfS _; unfold WfS; first | (simp only [List.length_take, List.length_drop]; omega) | simp)).fresh List.mem_cons_self
      ·
       replace h3 := of_decide_eq_false h3
       refine WL.skip (d := 34) Q0 Q0 Q0 Q0 ?_
       refine WL.skip (d := 34) Q0 Q0 Q0 Q0 ?_
       refine WL.skip (d := 34) Q0 Q0 Q0 Q0 ?_
       refine WL.skip (d := 34) Q0 Q0 Q0 Q0 ?_
       refine WL.skip (d := 34) Q0 Q0 Q0 Q0 ?_
       refine WL.p Q0 (Yl.pickF Q0 Q0) ?_
       refine WL.next ?_
       refine WC.condF Q0 ?_
       refine WC.skipn ?_
       refine WC.seq' ?_
       refine WC.seq ?_
       refine WL.p Q0 (Yl.loadAB agg26 Q0 hs Q1 Q0 Q0) ?_
       have hpl9 : PPolicy.lg (⟨true, (x3.cut 1 x3.l.length), (x4.cut 1 x4.l.length), (x8.cut 1 x8.l.length), ([] : Str)⟩ : PPolicy) = polS s := by
        have e2 : x2.l = splitC 59 s := hx2
        have g0 : x3.l = splitC 32 ((splitC 59 s).getD 0 []) := by rw [← e2]; exact hx3
        have g1 : x4.l = splitC 32 ((splitC 59 s).getD 1 []) := by rw [← e2]; exact hx4
        have g2 : x8.l = splitC 32 ((splitC 59 s).getD 2 []) := by rw [← e2]; exact hx8
        have c0 : (x3.cut 1 x3.l.length).l = (splitC 32 ((splitC 59 s).getD 0 [])).tail := by rw [Sl.cut_full, g0, List.drop_one]
        have c1 : (x4.cut 1 x4.l.length).l = (splitC 32 ((splitC 59 s).getD 1 [])).tail := by rw [Sl.cut_full, g1, List.drop_one]
        have c2 : (x8.cut 1 x8.l.length).l = (splitC 32 ((splitC 59 s).getD 2 [])).tail := by rw [Sl.cut_full, g2, List.drop_one]
        simp only [PPolicy.lg, polS, polOf, c0, c1, c2, TPolicy.mk.injEq, true_and]
        rw [← e2]
        first
         | (rw [if_neg (show ¬ 3 < x2.l.length from fun h => by omega)]; done)
         | (rw [if_pos (show 3 < x2.l.length from Int.ofNat_lt.1 Q7)]; done)
         | (rw [if_pos (show 3 < x2.l.length from Int.ofNat_lt.1 Q7)]
            simp only [nonceS, nonceI]
            first
              | (rfl; done)
              | (rw [if_neg Q7]; done)
              | (rw [if_pos Q7, List.take_of_length_le (by simp)]; done)
              | (rw [if_pos Q7]; done))
       refine WL.callp hs Q0 (Yc.func Q0 fn62) (c_spec_FormatPolicy (⟨true, (x3.cut 1 x3.l.length), (x4.cut 1 x4.l.length), (x8.cut 1 x8.l.length), ([] : Str)⟩ : PPolicy) _ ⟨trivial, (Sl.Ok.cut (hs.okow (x := x3) (F := F3) Q1) (by rw [hx3]; exact List.length_pos_iff.2 (splitC_ne _ _)) (by exact Nat.le_refl _)), (Sl.Ok.cut (hs.okow (x := x4) (F := F4) Q1) (by rw [hx4]; exact List.length_pos_iff.2 (splitC_ne _ _)) (by exact Nat.le_refl _)), (Sl.Ok.cut (hs.okow (x := x8) (F := F8) Q1) (by rw [hx8]; exact List.length_pos_iff.2 (splitC_ne _ _)) (by exact Nat.le_refl _)), (show WfS [] from Nat.zero_le _)⟩ (by rw [hpl9]; have := polS_size (s := s) (by rw [← show x2.l = splitC 59 s from hx2]; omega); omega)) ?_
       clear hs; intro w hs
       refine Qm ?_
       refine WL.p Q0 (Yl.nes Q0 Q0) ?_
       refine WL.next ?_
       refine WC.condS Q0 (fun h4 => ?_) (fun h4 => ?_)
       ·
        replace h4 := not_eq_true h4
        replace h4 := of_decide_eq_false h4
        refine WC.seq ?_
        refine WL.p Q0 (Yl.build bt26 Q0 Q4) ?_
        refine WL.s (Yr.storeB hs Q0 Q0 Q0 Q5 Q3 Q0 (by exact szf26)) ?_
        clear hs; rintro _ w hs
        refine Qa ?_
        refine WL.next ?_
        refine WC.ret ?_
        refine At.thenret ?_
        refine fin2c rfl agg26 Q0 Q0 hs Q1 Q0 ?_
        refine Ret.mk hs ?_
        rw [hpl9] at h4
        have hb9 : policyIs s = false := policyIs_bad h1 h4
        exact ⟨⟨false, ⟨[], none, 0⟩, ⟨[], none, 0⟩, ⟨[], none, 0⟩, []⟩, by rw [hb9]; rfl, (policyOf_no (.inr hb9)).symm, ⟨⟨[], PPolicy.zown _, .nil, fun b h => by cases h⟩⟩⟩
       ·
        replace h4 := not_eq_false h4
        replace h4 := of_decide_eq_true h4
        refine WC.skipn ?_
        refine WC.seq ?_
        refine WL.p Q0 (Yl.loadAB agg26 Q0 hs Q1 Q0 Q0) ?_
        refine WL.s (Yr.storeB hs Q0 Q0 Q0 Q5 Q3 Q0 (by exact szf26)) ?_
        clear hs; rintro _ w hs
        refine Qa ?_
        refine WL.next ?_
        refine WC.ret ?_
        refine fin2c rfl agg26 Q0 Q0 hs Q1 Q0 ?_
        refine Ret.mk hs ?_
        rw [hpl9] at h4
        have hq9 : x2.l = splitC 59 s := hx2
        have h49 : 3 ≤ (splitC 59 s).length := by rw [← hq9]; omega
        have hb9 : policyIs s = true := policyIs_good h4 h49
        obtain ⟨G90, hs⟩ := Sat.cutow (lo := 1) (hi := x3.l.length) (hs.sel (D := [ow x3 F3]) Q2) (by rw [hx3]; exact List.length_pos_iff.2 (splitC_ne _ _)) (Nat.le_refl _)
        obtain ⟨G91, hs⟩ := Sat.cutow (lo := 1) (hi := x4.l.length) (hs.sel (D := [ow x4 F4]) Q2) (by rw [hx4]; exact List.length_pos_iff.2 (splitC_ne _ _)) (Nat.le_refl _)
        obtain ⟨G92, hs⟩ := Sat.cutow (lo := 1) (hi := x8.l.length) (hs.sel (D := [ow x8 F8]) Q2) (by rw [hx8]; exact List.length_pos_iff.2 (splitC_ne _ _)) (Nat.le_refl _)
        refine ⟨(⟨true, (x3.cut 1 x3.l.length), (x4.cut 1 x4.l.length), (x8.cut 1 x8.l.length), ([] : Str)⟩ : PPolicy), by rw [hb9]; rfl, hpl9.trans (policyOf_good h1 hb9).symm, ?_⟩
        exact (PPolicy.join _ (hs.only (D := [ow (x3.cut 1 x3.l.length) G90, ow (x4.cut 1 x4.l.length) G91, ow (x8.cut 1 x8.l.length) G92]) Q2) trivial (by show WfS _; unfold WfS; first | (simp only [List.length_take, List.length_drop]; omega) | simp)).fresh List.mem_cons_self
    ·
     refine WI.r (i := 16) Q0 Q0 (Yr.alloc hs zt26) (by rintro _ w ⟨b9, rfl, hb, hs⟩; exact hs.only Q2) ?_
     clear hs; rintro _ w ⟨b9, rfl, hb, hs⟩; clear hb
     refine WA.call2 (i := 8) hs (fun _ hs => hs.only Q2) Q6 Q0 Q0 (Yc.func Q0 fn64) (c_spec_l5Split _ 32 _ (by first | (have := getD_len (s := s) (i := 0); rw [← show x2.l = splitC 59 s from hx2] at this; omega) | (have := getD_len (s := s) (i := 1); rw [← show x2.l = splitC 59 s from hx2] at this; omega) | (have := getD_len (s := s) (i := 2); rw [← show x2.l = splitC 59 s from hx2] at this; omega) | (have := getD_len (s := s) (i := 3); rw [← show x2.l = splitC 59 s from hx2] at this; omega))) ?_
     have hs0 := hs; clear hs; intro v w hb hR hs; clear hs
     obtain ⟨x10, rfl, hx10, hf10⟩ := hR
     obtain ⟨F10, hs⟩ := hf10.sat hs0 hb; clear hs0 hf10
     have hle10 := Sl.Ok.le (hs.okow (x := x10) (F := F10) Q1)
     refine WA.p (i := 9) Q0 Q6 Q6 Q6 Q0 (hs.only Q2) (fun w hs => Yl.slice_sl (s := x10) (l := 1) (h := x10.l.length) slt24 Q0 hle10 (by exact ⟨_, by rfl⟩) (by exact rfl) (by rw [hx10]; exact List.length_pos_iff.2 (splitC_ne _ _)) (by exact Nat.le_refl _)) ?_
     refine WA.call2 (i := 13) hs (fun _ hs => hs.only Q2) Q6 Q0 Q0 (Yc.func Q0 fn64) (c_spec_l5Split _ 32 _ (by first | (have := getD_len (s := s) (i := 0); rw [← show x2.l = splitC 59 s from hx2] at this; omega) | (have := getD_len (s := s) (i := 1); rw [← show x2.l = splitC 59 s from hx2] at this; omega) | (have := getD_len (s := s) (i := 2); rw [← show x2.l = splitC 59 s from hx2] at this; omega) | (have := getD_len (s := s) (i := 3); rw [← show x2.l = splitC 59 s from hx2] at this; omega))) ?_
     have hs0 := hs; clear hs; intro v w hb hR hs; clear hs
     obtain ⟨x11, rfl, hx11, hf11⟩ := hR
     obtain ⟨F11, hs⟩ := hf11.sat hs0 hb; clear hs0 hf11
     have hle11 := Sl.Ok.le (hs.okow (x := x11) (F := F11) Q1)
     refine WA.r (i := 14) Q6 Q0 Q0 (Yl.yr (Yl.slice_sl (s := x11) (l := 1) (h := x11.l.length) slt24 Q0 hle11 (by exact ⟨_, by rfl⟩) (by exact rfl) (by rw [hx11]; exact List.length_pos_iff.2 (splitC_ne _ _)) (by exact Nat.le_refl _))) (by rintro _ _ ⟨rfl, rfl⟩; exact hs.only Q2) ?_
     rintro _ _ ⟨rfl, rfl⟩
     refine WA.p (i := 15) Q0 Q6 Q6 Q6 Q0 (hs.only Q2) (fun w hs => Yl.build bt26 Q0 Q4) ?_
     refine WA.s (i := 17) Q6 Q0 (Yr.storeB hs Q0 Q0 Q0 Q5 Q3 Q0 (by exact szf26)) (by rintro _ w hs; exact hs.only Q2) ?_
     clear hs; rintro _ w hs
     refine WA.donen Q6 ?_
     refine WC.seq' ?_
     refine WC.seq ?_
     refine Qm ?_
     refine WL.p Q0 (Yl.len_sl slu24 Q0) ?_
     refine WL.p Q0 (Yl.gtr Q0 Q0) ?_
     refine Qm ?_
     refine WL.split (d := 34) Q0 (fun h3 => ?_) (fun h3 => ?_)
     ·
      replace h3 := of_decide_eq_true h3
      refine WL.run (d := 34) Q0 Q0 ?_
      refine Qm ?_
      refine WL.run (d := 34) Q0 Q0 ?_
      refine WL.p Q0 (Yl.indexAddr (k := 3) slt24 Q0 Q0 (hs.okow (x := x2) (F := F2) Q1) Q0 ((getD_some (i := 3) (z := ([] : Str)) Q7))) ?_
      refine WL.run (d := 34) Q0 Q0 ?_
      refine WL.p Q0 (Yl.loadC0 sca9 Q0 (Sl.Ok.at_ (hs.okow (x := x2) (F := F2) Q1) ((getD_some (i := 3) (z := ([] : Str)) Q7))).2 Q0) ?_
      refine WL.run (d := 34) Q0 Q0 ?_
      refine WL.p Q0 (Yl.len_str str9 Q0) ?_
      refine WL.run (d := 34) Q0 Q0 ?_
      refine WL.p Q0 (Yl.gtr Q0 Q0) ?_
      refine WL.p Q0 (Yl.pickT Q0 Q0) ?_
      refine WL.next ?_
      refine WC.condS Q0 (fun h4 => ?_) (fun h4 => ?_)
      ·
       replace h4 := of_decide_eq_true h4
       refine WC.region ?_
       refine Qm ?_
       refine WL.p Q0 (Yl.indexAddr (k := 3) slt24 Q0 Q0 (hs.okow (x := x2) (F := F2) Q1) Q0 ((getD_some (i := 3) (z := ([] : Str)) Q7))) ?_
       refine WL.p Q0 (Yl.loadC0 sca9 Q0 (Sl.Ok.at_ (hs.okow (x := x2) (F := F2) Q1) ((getD_some (i := 3) (z := ([] : Str)) Q7))).2 Q0) ?_
       refine WL.p Q0 (Yl.slice_str (l := 6) str9 Q0 (by exact ⟨_, by rfl⟩) (by exact rfl) Q7 Q7) ?_
       refine WL.p Q0 (Yl.fieldAddr fa26_4 Q0) ?_
       refine WL.s (Yr.storeB hs Q0 Q0 Q0 Q5 Q3 Q0 (by exact szf9)) ?_
       clear hs; rintro _ w hs
       refine WL.nil ?_
       refine At.then_ ?_
       refine WC.seq' ?_
       refine WC.seq ?_
       refine WL.p Q0 (Yl.loadAB agg26 Q0 hs Q1 Q0 Q0) ?_
       have hpl9 : PPolicy.lg (⟨true, (x3.cut 1 x3.l.length), (x10.cut 1 x10.l.length), (x11.cut 1 x11.l.length), (((x2.l.getD 3 []).drop 6).take ((x2.l.getD 3 []).length - 6))⟩ : PPolicy) = polS s := by
        have e2 : x2.l = splitC 59 s := hx2
        have g0 : x3.l = splitC 32 ((splitC 59 s).getD 0 []) := by rw [← e2]; exact hx3
        have g1 : x10.l = splitC 32 ((splitC 59 s).getD 1 []) := by rw [← e2]; exact hx10
        have g2 : x11.l = splitC 32 ((splitC 59 s).getD 2 []) := by rw [← e2]; exact hx11
        have c0 : (x3.cut 1 x3.l.length).l = (splitC 32 ((splitC 59 s).getD 0 [])).tail := by rw [Sl.cut_full, g0, List.drop_one]
        have c1 : (x10.cut 1 x10.l.length).l = (splitC 32 ((splitC 59 s).getD 1 [])).tail := by rw [Sl.cut_full, g1, List.drop_one]
        have c2 : (x11.cut 1 x11.l.length).l = (splitC 32 ((splitC 59 s).getD 2 [])).tail := by rw [Sl.cut_full, g2, List.drop_one]
        simp only [PPolicy.lg, polS, polOf, c0, c1, c2, TPolicy.mk.injEq, true_and]
        rw [← e2]
        first
         | (rw [if_neg (show ¬ 3 < x2.l.length from fun h => by omega)]; done)
         | (rw [if_pos (show 3 < x2.l.length from Int.ofNat_lt.1 Q7)]; done)
         | (rw [if_pos (show 3 < x2.l.length from Int.ofNat_lt.1 Q7)]
            simp only [nonceS, nonceI]
            first
              | (rfl; done)
              | (rw [if_neg Q7]; done)
              | (rw [if_pos Q7, List.take_of_length_le (by simp)]; done)
              | (rw [if_pos Q7]; done))
       refine WL.callp hs Q0 (Yc.func Q0 fn62) (c_spec_FormatPolicy (⟨true, (x3.cut 1 x3.l.length), (x10.cut 1 x10.l.length), (x11.cut 1 x11.l.length), (((x2.l.getD 3 []).drop 6).take ((x2.l.getD 3 []).length - 6))⟩ : PPolicy) _ ⟨trivial, (Sl.Ok.cut (hs.okow (x := x3) (F := F3) Q1) (by rw [hx3]; exact List.length_pos_iff.2 (splitC_ne _ _)) (by exact Nat.le_refl _)), (Sl.Ok.cut (hs.okow (x := x10) (F := F10) Q1) (by rw [hx10]; exact List.length_pos_iff.2 (splitC_ne _ _)) (by exact Nat.le_refl _)), (Sl.Ok.cut (hs.okow (x := x11) (F := F11) Q1) (by rw [hx11]; exact List.length_pos_iff.2 (splitC_ne _ _)) (by exact Nat.le_refl _)), (by show WfS _; unfold WfS; simp only [List.length_take, List.length_drop]; omega)⟩ (by rw [hpl9]; have := polS_size (s := s) (by rw [← show x2.l = splitC 59 s from hx2]; omega); omega)) ?_
       clear hs; intro w hs
       refine Qm ?_
       refine WL.p Q0 (Yl.nes Q0 Q0) ?_
       refine WL.next ?_
       refine WC.condS Q0 (fun h5 => ?_) (fun h5 => ?_)
       ·
        replace h5 := not_eq_true h5
        replace h5 := of_decide_eq_false h5
        refine WC.seq ?_
        refine WL.p Q0 (Yl.build bt26 Q0 Q4) ?_
        refine WL.s (Yr.storeB hs Q0 Q0 Q0 Q5 Q3 Q0 (by exact szf26)) ?_
        clear hs; rintro _ w hs
        refine Qa ?_
        refine WL.next ?_
        refine WC.ret ?_
        refine At.thenret ?_
        refine fin2c rfl agg26 Q0 Q0 hs Q1 Q0 ?_
        refine Ret.mk hs ?_
        rw [hpl9] at h5
        have hb9 : policyIs s = false := policyIs_bad h1 h5
        exact ⟨⟨false, ⟨[], none, 0⟩, ⟨[], none, 0⟩, ⟨[], none, 0⟩, []⟩, by rw [hb9]; rfl, (policyOf_no (.inr hb9)).symm, ⟨⟨[], PPolicy.zown _, .nil, fun b h => by cases h⟩⟩⟩
       ·
        replace h5 := not_eq_false h5
        replace h5 := of_decide_eq_true h5
        refine WC.skipn ?_
        refine WC.seq ?_
        refine WL.p Q0 (Yl.loadAB agg26 Q0 hs Q1 Q0 Q0) ?_
        refine WL.s (Yr.storeB hs Q0 Q0 Q0 Q5 Q3 Q0 (by exact szf26)) ?_
        clear hs; rintro _ w hs
        refine Qa ?_
        refine WL.next ?_
        refine WC.ret ?_
        refine fin2c rfl agg26 Q0 Q0 hs Q1 Q0 ?_
        refine Ret.mk hs ?_
        rw [hpl9] at h5
        have hq9 : x2.l = splitC 59 s := hx2
        have h49 : 3 ≤ (splitC 59 s).length := by rw [← hq9]; omega
        have hb9 : policyIs s = true := policyIs_good h5 h49
        obtain ⟨G90, hs⟩ := Sat.cutow (lo := 1) (hi := x3.l.length) (hs.sel (D := [ow x3 F3]) Q2) (by rw [hx3]; exact List.length_pos_iff.2 (splitC_ne _ _)) (Nat.le_refl _)
        obtain ⟨G91, hs⟩ := Sat.cutow (lo := 1) (hi := x10.l.length) (hs.sel (D := [ow x10 F10]) Q2) (by rw [hx10]; exact List.length_pos_iff.2 (splitC_ne _ _)) (Nat.le_refl _)
        obtain ⟨G92, hs⟩ := Sat.cutow (lo := 1) (hi := x11.l.length) (hs.sel (D := [ow x11 F11]) Q2) (by rw [hx11]; exact List.length_pos_iff.2 (splitC_ne _ _)) (Nat.le_refl _)
        refine ⟨(⟨true, (x3.cut 1 x3.l.length), (x10.cut 1 x10.l.length), (x11.cut 1 x11.l.length), (((x2.l.getD 3 []).drop 6).take ((x2.l.getD 3 []).length - 6))⟩ : PPolicy), by rw [hb9]; rfl, hpl9.trans (policyOf_good h1 hb9).symm, ?_⟩
        exact (PPolicy.join _ (hs.only (D := [ow (x3.cut 1 x3.l.length) G90, ow (x10.cut 1 x10.l.length) G91, ow (x11.cut 1 x11.l.length) G92]) Q2) trivial (by show WfS _; unfold WfS; first | (simp only [List.length_take, List.length_drop]; omega) | simp)).fresh List.mem_cons_self
      ·
       replace h4 := of_decide_eq_false h4
       refine WC.skipn ?_
       refine WC.seq' ?_
       refine WC.seq ?_
       refine WL.p Q0 (Yl.loadAB agg26 Q0 hs Q1 Q0 Q0) ?_
       have hpl9 : PPolicy.lg (⟨true, (x3.cut 1 x3.l.length), (x10.cut 1 x10.l.length), (x11.cut 1 x11.l.length), ([] : Str)⟩ : PPolicy) = polS s := by
        have e2 : x2.l = splitC 59 s := hx2
        have g0 : x3.l = splitC 32 ((splitC 59 s).getD 0 []) := by rw [← e2]; exact hx3
        have g1 : x10.l = splitC 32 ((splitC 59 s).getD 1 []) := by rw [← e2]; exact hx10
        have g2 : x11.l = splitC 32 ((splitC 59 s).getD 2 []) := by rw [← e2]; exact hx11
        have c0 : (x3.cut 1 x3.l.length).l = (splitC 32 ((splitC 59 s).getD 0 [])).tail := by rw [Sl.cut_full, g0, List.drop_one]
        have c1 : (x10.cut 1 x10.l.length).l = (splitC 32 ((splitC 59 s).getD 1 [])).tail := by rw [Sl.cut_full, g1, List.drop_one]
        have c2 : (x11.cut 1 x11.l.length).l = (splitC 32 ((splitC 59 s).getD 2 [])).tail := by rw [Sl.cut_full, g2, List.drop_one]
        simp only [PPolicy.lg, polS, polOf, c0, c1, c2, TPolicy.mk.injEq, true_and]
        rw [← e2]
        first
         | (rw [if_neg (show ¬ 3 < x2.l.length from fun h => by omega)]; done)
         | (rw [if_pos (show 3 < x2.l.length from Int.ofNat_lt.1 Q7)]; done)
         | (rw [if_pos (show 3 < x2.l.length from Int.ofNat_lt.1 Q7)]
            simp only [nonceS, nonceI]
            first
              | (rfl; done)
              | (rw [if_neg Q7]; done)
              | (rw [if_pos Q7, List.take_of_length_le (by simp)]; done)
              | (rw [if_pos Q7]; done))
       refine WL.callp hs Q0 (Yc.func Q0 fn62) (c_spec_FormatPolicy (⟨true, (x3.cut 1 x3.l.length), (x10.cut 1 x10.l.length), (x11.cut 1 x11.l.length), ([] : Str)⟩ : PPolicy) _ ⟨trivial, (Sl.Ok.cut (hs.okow (x := x3) (F := F3) Q1) (by rw [hx3]; exact List.length_pos_iff.2 (splitC_ne _ _)) (by exact Nat.le_refl _)), (Sl.Ok.cut (hs.okow (x := x10) (F := F10) Q1) (by rw [hx10]; exact List.length_pos_iff.2 (splitC_ne _ _)) (by exact Nat.le_refl _)), (Sl.Ok.cut (hs.okow (x := x11) (F := F11) Q1) (by rw [hx11]; exact List.length_pos_iff.2 (splitC_ne _ _)) (by exact Nat.le_refl _)), (show WfS [] from Nat.zero_le _)⟩ (by rw [hpl9]; have := polS_size (s := s) (by rw [← show x2.l = splitC 59 s from hx2]; omega); omega)) ?_
       clear hs; intro w hs
       refine Qm ?_
       refine WL.p Q0 (Yl.nes Q0 Q0) ?_
       refine WL.next ?_
       refine WC.condS Q0 (fun h5 => ?_) (fun h5 => ?_)
       ·
        replace h5 := not_eq_true h5
        replace h5 := of_decide_eq_false h5
        refine WC.seq ?_
        refine WL.p Q0 (Yl.build bt26 Q0 Q4) ?_
        refine WL.s (Yr.storeB hs Q0 Q0 Q0 Q5 Q3 Q0 (by exact szf26)) ?_
        clear hs; rintro _ w hs
        refine Qa ?_
        refine WL.next ?_
        refine WC.ret ?_
        refine At.thenret ?_
        refine fin2c rfl agg26 Q0 Q0 hs Q1 Q0 ?_
        refine Ret.mk hs ?_
        rw [hpl9] at h5
        have hb9 : policyIs s = false := policyIs_bad h1 h5
        exact ⟨⟨false, ⟨[], none, 0⟩, ⟨[], none, 0⟩, ⟨[], none, 0⟩, []⟩, by rw [hb9]; rfl, (policyOf_no (.inr hb9)).symm, ⟨⟨[], PPolicy.zown _, .nil, fun b h => by cases h⟩⟩⟩
       ·
        replace h5 := not_eq_false h5
        replace h5 := of_decide_eq_true h5
        refine WC.skipn ?_
        refine WC.seq ?_
        refine WL.p Q0 (Yl.loadAB agg26 Q0 hs Q1 Q0 Q0) ?_
        refine WL.s (Yr.storeB hs Q0 Q0 Q0 Q5 Q3 Q0 (by exact szf26)) ?_
        clear hs; rintro _ w hs
        refine Qa ?_
        refine WL.next ?_
        refine WC.ret ?_
        refine fin2c rfl agg26 Q0 Q0 hs Q1 Q0 ?_
        refine Ret.mk hs ?_
        rw [hpl9] at h5
        have hq9 : x2.l = splitC 59 s := hx2
        have h49 : 3 ≤ (splitC 59 s).length := by rw [← hq9]; omega
        have hb9 : policyIs s = true := policyIs_good h5 h49
        obtain ⟨G90, hs⟩ := Sat.cutow (lo := 1) (hi := x3.l.length) (hs.sel (D := [ow x3 F3]) Q2) (by rw [hx3]; exact List.length_pos_iff.2 (splitC_ne _ _)) (Nat.le_refl _)
        obtain ⟨G91, hs⟩ := Sat.cutow (lo := 1) (hi := x10.l.length) (hs.sel (D := [ow x10 F10]) Q2) (by rw [hx10]; exact List.length_pos_iff.2 (splitC_ne _ _)) (Nat.le_refl _)
        obtain ⟨G92, hs⟩ := Sat.cutow (lo := 1) (hi := x11.l.length) (hs.sel (D := [ow x11 F11]) Q2) (by rw [hx11]; exact List.length_pos_iff.2 (splitC_ne _ _)) (Nat.le_refl _)
        refine ⟨(⟨true, (x3.cut 1 x3.l.length), (x10.cut 1 x10.l.length), (x11.cut 1 x11.l.length), ([] : Str)⟩ : PPolicy), by rw [hb9]; rfl, hpl9.trans (policyOf_good h1 hb9).symm, ?_⟩
        exact (PPolicy.join _ (hs.only (D := [ow (x3.cut 1 x3.l.length) G90, ow (x10.cut 1 x10.l.length) G91, ow (x11.cut 1 x11.l.length) G92]) Q2) trivial (by show WfS _; unfold WfS; first | (simp only [List.length_take, List.length_drop]; omega) | simp)).fresh List.mem_cons_self
     ·
      replace h3 := of_decide_eq_false h3
      refine WL.skip (d := 34) Q0 Q0 Q0 Q0 ?_
      refine WL.skip (d := 34) Q0 Q0 Q0 Q0 ?_
      refine WL.skip (d := 34) Q0 Q0 Q0 Q0 ?_
      refine WL.skip (d := 34) Q0 Q0 Q0 Q0 ?_
      refine WL.skip (d := 34) Q0 Q0 Q0 Q0 ?_
      refine WL.p Q0 (Yl.pickF Q0 Q0) ?_
      refine WL.next ?_
      refine WC.condF Q0 ?_
      refine WC.skipn ?_
      refine WC.seq' ?_
      refine WC.seq ?_
      refine WL.p Q0 (Yl.loadAB agg26 Q0 hs Q1 Q0 Q0) ?_
      have hpl9 : PPolicy.lg (⟨true, (x3.cut 1 x3.l.length), (x10.cut 1 x10.l.length), (x11.cut 1 x11.l.length), ([] : Str)⟩ : PPolicy) = polS s := by
       have e2 : x2.l = splitC 59 s := hx2
       have g0 : x3.l = splitC 32 ((splitC 59 s).getD 0 []) := by rw [← e2]; exact hx3
       have g1 : x10.l = splitC 32 ((splitC 59 s).getD 1 []) := by rw [← e2]; exact hx10
       have g2 : x11.l = splitC 32 ((splitC 59 s).getD 2 []) := by rw [← e2]; exact hx11
       have c0 : (x3.cut 1 x3.l.length).l = (splitC 32 ((splitC 59 s).getD 0 [])).tail := by rw [Sl.cut_full, g0, List.drop_one]
       have c1 : (x10.cut 1 x10.l.length).l = (splitC 32 ((splitC 59 s).getD 1 [])).tail := by rw [Sl.cut_full, g1, List.drop_one]
       have c2 : (x11.cut 1 x11.l.length).l = (splitC 32 ((splitC 59 s).getD 2 [])).tail := by rw [Sl.cut_full, g2, List.drop_one]
       simp only [PPolicy.lg, polS, polOf, c0, c1, c2, TPolicy.mk.injEq, true_and]
       rw [← e2]
       first
        | (rw [if_neg (show ¬ 3 < x2.l.length from fun h => by omega)]; done)
        | (rw [if_pos (show 3 < x2.l.length from Int.ofNat_lt.1 Q7)]; done)
        | (rw [if_pos (show 3 < x2.l.length from Int.ofNat_lt.1 Q7)]
           simp only [nonceS, nonceI]
           first
             | (rfl; done)
             | (rw [if_neg Q7]; done)
             | (rw [if_pos Q7, List.take_of_length_le (by simp)]; done)
             | (rw [if_pos Q7]; done))
      refine WL.callp hs Q0 (Yc.func Q0 fn62) (c_spec_FormatPolicy (⟨true, (x3.cut 1 x3.l.length), (x10.cut 1 x10.l.length), (x11.cut 1 x11.l.length), ([] : Str)⟩ : PPolicy) _ ⟨trivial, (Sl.Ok.cut (hs.okow (x := x3) (F := F3) Q1) (by rw [hx3]; exact List.length_pos_iff.2 (splitC_ne _ _)) (by exact Nat.le_refl _)), (Sl.Ok.cut (hs.okow (x := x10) (F := F10) Q1) (by rw [hx10]; exact List.length_pos_iff.2 (splitC_ne _ _)) (by exact Nat.le_refl _)), (Sl.Ok.cut (hs.okow (x := x11) (F := F11) Q1) (by rw [hx11]; exact List.length_pos_iff.2 (splitC_ne _ _)) (by exact Nat.le_refl _)), (show WfS [] from Nat.zero_le _)⟩ (by rw [hpl9]; have := polS_size (s := s) (by rw [← show x2.l = splitC 59 s from hx2]; omega); omega)) ?_
      clear hs; intro w hs
      refine Qm ?_
      refine WL.p Q0 (Yl.nes Q0 Q0) ?_
      refine WL.next ?_
      refine WC.condS Q0 (fun h4 => ?_) (fun h4 => ?_)
      ·
       replace h4 := not_eq_true h4
       replace h4 := of_decide_eq_false h4
       refine WC.seq ?_
       refine WL.p Q0 (Yl.build bt26 Q0 Q4) ?_
       refine WL.s (Yr.storeB hs Q0 Q0 Q0 Q5 Q3 Q0 (by exact szf26)) ?_
       clear hs; rintro _ w hs
       refine Qa ?_
       refine WL.next ?_
       refine WC.ret ?_
       refine At.thenret ?_
       refine fin2c rfl agg26 Q0 Q0 hs Q1 Q0 ?_
       refine Ret.mk hs ?_
       rw [hpl9] at h4
       have hb9 : policyIs s = false := policyIs_bad h1 h4
       exact ⟨⟨false, ⟨[], none, 0⟩, ⟨[], none, 0⟩, ⟨[], none, 0⟩, []⟩, by rw [hb9]; rfl, (policyOf_no (.inr hb9)).symm, ⟨⟨[], PPolicy.zown _, .nil, fun b h => by cases h⟩⟩⟩
      ·
       replace h4 := not_eq_false h4
       replace h4 := of_decide_eq_true h4
       refine WC.skipn ?_
       refine WC.seq ?_
       refine WL.p Q0 (Yl.loadAB agg26 Q0 hs Q1 Q0 Q0) ?_
       refine WL.s (Yr.storeB hs Q0 Q0 Q0 Q5 Q3 Q0 (by exact szf26)) ?_
       clear hs; rintro _ w hs
       refine Qa ?_
       refine WL.next ?_
       refine WC.ret ?_
       refine fin2c rfl agg26 Q0 Q0 hs Q1 Q0 ?_
       refine Ret.mk hs ?_
       rw [hpl9] at h4
       have hq9 : x2.l = splitC 59 s := hx2
       have h49 : 3 ≤ (splitC 59 s).length := by rw [← hq9]; omega
       have hb9 : policyIs s = true := policyIs_good h4 h49
       obtain ⟨G90, hs⟩ := Sat.cutow (lo := 1) (hi := x3.l.length) (hs.sel (D := [ow x3 F3]) Q2) (by rw [hx3]; exact List.length_pos_iff.2 (splitC_ne _ _)) (Nat.le_refl _)
       obtain ⟨G91, hs⟩ := Sat.cutow (lo := 1) (hi := x10.l.length) (hs.sel (D := [ow x10 F10]) Q2) (by rw [hx10]; exact List.length_pos_iff.2 (splitC_ne _ _)) (Nat.le_refl _)
       obtain ⟨G92, hs⟩ := Sat.cutow (lo := 1) (hi := x11.l.length) (hs.sel (D := [ow x11 F11]) Q2) (by rw [hx11]; exact List.length_pos_iff.2 (splitC_ne _ _)) (Nat.le_refl _)
       refine ⟨(⟨true, (x3.cut 1 x3.l.length), (x10.cut 1 x10.l.length), (x11.cut 1 x11.l.length), ([] : Str)⟩ : PPolicy), by rw [hb9]; rfl, hpl9.trans (policyOf_good h1 hb9).symm, ?_⟩
       exact (PPolicy.join _ (hs.only (D := [ow (x3.cut 1 x3.l.length) G90, ow (x10.cut 1 x10.l.length) G91, ow (x11.cut 1 x11.l.length) G92]) Q2) trivial (by show WfS _; unfold WfS; first | (simp only [List.length_take, List.length_drop]; omega) | simp)).fresh List.mem_cons_self
   ·
    refine WI.r (i := 16) Q0 Q0 (Yr.alloc hs zt26) (by rintro _ w ⟨b12, rfl, hb, hs⟩; exact hs.only Q2) ?_
    clear hs; rintro _ w ⟨b12, rfl, hb, hs⟩; clear hb
    refine WA.call2 (i := 3) hs (fun _ hs => hs.only Q2) Q6 Q0 Q0 (Yc.func Q0 fn64) (c_spec_l5Split _ 32 _ (by first | (have := getD_len (s := s) (i := 0); rw [← show x2.l = splitC 59 s from hx2] at this; omega) | (have := getD_len (s := s) (i := 1); rw [← show x2.l = splitC 59 s from hx2] at this; omega) | (have := getD_len (s := s) (i := 2); rw [← show x2.l = splitC 59 s from hx2] at this; omega) | (have := getD_len (s := s) (i := 3); rw [← show x2.l = splitC 59 s from hx2] at this; omega))) ?_
    have hs0 := hs; clear hs; intro v w hb hR hs; clear hs
    obtain ⟨x13, rfl, hx13, hf13⟩ := hR
    obtain ⟨F13, hs⟩ := hf13.sat hs0 hb; clear hs0 hf13
    have hle13 := Sl.Ok.le (hs.okow (x := x13) (F := F13) Q1)
    refine WA.p (i := 4) Q0 Q6 Q6 Q6 Q0 (hs.only Q2) (fun w hs => Yl.slice_sl (s := x13) (l := 1) (h := x13.l.length) slt24 Q0 hle13 (by exact ⟨_, by rfl⟩) (by exact rfl) (by rw [hx13]; exact List.length_pos_iff.2 (splitC_ne _ _)) (by exact Nat.le_refl _)) ?_
    refine WA.call2 (i := 8) hs (fun _ hs => hs.only Q2) Q6 Q0 Q0 (Yc.func Q0 fn64) (c_spec_l5Split _ 32 _ (by first | (have := getD_len (s := s) (i := 0); rw [← show x2.l = splitC 59 s from hx2] at this; omega) | (have := getD_len (s := s) (i := 1); rw [← show x2.l = splitC 59 s from hx2] at this; omega) | (have := getD_len (s := s) (i := 2); rw [← show x2.l = splitC 59 s from hx2] at this; omega) | (have := getD_len (s := s) (i := 3); rw [← show x2.l = splitC 59 s from hx2] at this; omega))) ?_
    have hs0 := hs; clear hs; intro v w hb hR hs; clear hs
    obtain ⟨x14, rfl, hx14, hf14⟩ := hR
    obtain ⟨F14, hs⟩ := hf14.sat hs0 hb; clear hs0 hf14
    have hle14 := Sl.Ok.le (hs.okow (x := x14) (F := F14) Q1)
    refine WA.p (i := 9) Q0 Q6 Q6 Q6 Q0 (hs.only Q2) (fun w hs => Yl.slice_sl (s := x14) (l := 1) (h := x14.l.length) slt24 Q0 hle14 (by exact ⟨_, by rfl⟩) (by exact rfl) (by rw [hx14]; exact List.length_pos_iff.2 (splitC_ne _ _)) (by exact Nat.le_refl _)) ?_
    refine WA.call2 (i := 13) hs (fun _ hs => hs.only Q2) Q6 Q0 Q0 (Yc.func Q0 fn64) (c_spec_l5Split _ 32 _ (by first | (have := getD_len (s := s) (i := 0); rw [← show x2.l = splitC 59 s from hx2] at this; omega) | (have := getD_len (s := s) (i := 1); rw [← show x2.l = splitC 59 s from hx2] at this; omega) | (have := getD_len (s := s) (i := 2); rw [← show x2.l = splitC 59 s from hx2] at this; omega) | (have := getD_len (s := s) (i := 3); rw [← show x2.l = splitC 59 s from hx2] at this; omega))) ?_
    have hs0 := hs; clear hs; intro v w hb hR hs; clear hs
    obtain ⟨x15, rfl, hx15, hf15⟩ := hR
    obtain ⟨F15, hs⟩ := hf15.sat hs0 hb; clear hs0 hf15
    have hle15 := Sl.Ok.le (hs.okow (x := x15) (F := F15) Q1)
    refine WA.r (i := 14) Q6 Q0 Q0 (Yl.yr (Yl.slice_sl (s := x15) (l := 1) (h := x15.l.length) slt24 Q0 hle15 (by exact ⟨_, by rfl⟩) (by exact rfl) (by rw [hx15]; exact List.length_pos_iff.2 (splitC_ne _ _)) (by exact Nat.le_refl _))) (by rintro _ _ ⟨rfl, rfl⟩; exact hs.only Q2) ?_
    rintro _ _ ⟨rfl, rfl⟩
    refine WA.p (i := 15) Q0 Q6 Q6 Q6 Q0 (hs.only Q2) (fun w hs => Yl.build bt26 Q0 Q4) ?_
    refine WA.s (i := 17) Q6 Q0 (Yr.storeB hs Q0 Q0 Q0 Q5 Q3 Q0 (by exact szf26)) (by rintro _ w hs; exact hs.only Q2) ?_
    clear hs; rintro _ w hs
    refine WA.donen Q6 ?_
    refine WC.seq' ?_
    refine WC.seq ?_
    refine Qm ?_
    refine WL.p Q0 (Yl.len_sl slu24 Q0) ?_
    refine WL.p Q0 (Yl.gtr Q0 Q0) ?_
    refine Qm ?_
    refine WL.split (d := 34) Q0 (fun h3 => ?_) (fun h3 => ?_)
    ·
     replace h3 := of_decide_eq_true h3
     refine WL.run (d := 34) Q0 Q0 ?_
     refine Qm ?_
     refine WL.run (d := 34) Q0 Q0 ?_
     refine WL.p Q0 (Yl.indexAddr (k := 3) slt24 Q0 Q0 (hs.okow (x := x2) (F := F2) Q1) Q0 ((getD_some (i := 3) (z := ([] : Str)) Q7))) ?_
     refine WL.run (d := 34) Q0 Q0 ?_
     refine WL.p Q0 (Yl.loadC0 sca9 Q0 (Sl.Ok.at_ (hs.okow (x := x2) (F := F2) Q1) ((getD_some (i := 3) (z := ([] : Str)) Q7))).2 Q0) ?_
     refine WL.run (d := 34) Q0 Q0 ?_
     refine WL.p Q0 (Yl.len_str str9 Q0) ?_
     refine WL.run (d := 34) Q0 Q0 ?_
     refine WL.p Q0 (Yl.gtr Q0 Q0) ?_
     refine WL.p Q0 (Yl.pickT Q0 Q0) ?_
     refine WL.next ?_
     refine WC.condS Q0 (fun h4 => ?_) (fun h4 => ?_)
     ·
      replace h4 := of_decide_eq_true h4
      refine WC.region ?_
      refine Qm ?_
      refine WL.p Q0 (Yl.indexAddr (k := 3) slt24 Q0 Q0 (hs.okow (x := x2) (F := F2) Q1) Q0 ((getD_some (i := 3) (z := ([] : Str)) Q7))) ?_
      refine WL.p Q0 (Yl.loadC0 sca9 Q0 (Sl.Ok.at_ (hs.okow (x := x2) (F := F2) Q1) ((getD_some (i := 3) (z := ([] : Str)) Q7))).2 Q0) ?_
      refine WL.p Q0 (Yl.slice_str (l := 6) str9 Q0 (by exact ⟨_, by rfl⟩) (by exact rfl) Q7 Q7) ?_
      refine WL.p Q0 (Yl.fieldAddr fa26_4 Q0) ?_
      refine WL.s (Yr.storeB hs Q0 Q0 Q0 Q5 Q3 Q0 (by exact szf9)) ?_
      clear hs; rintro _ w hs
      refine WL.nil ?_
      refine At.then_ ?_
      refine WC.seq' ?_
      refine WC.seq ?_
      refine WL.p Q0 (Yl.loadAB agg26 Q0 hs Q1 Q0 Q0) ?_
      have hpl9 : PPolicy.lg (⟨true, (x13.cut 1 x13.l.length), (x14.cut 1 x14.l.length), (x15.cut 1 x15.l.length), (((x2.l.getD 3 []).drop 6).take ((x2.l.getD 3 []).length - 6))⟩ : PPolicy) = polS s := by
       have e2 : x2.l = splitC 59 s := hx2
       have g0 : x13.l = splitC 32 ((splitC 59 s).getD 0 []) := by rw [← e2]; exact hx13
       have g1 : x14.l = splitC 32 ((splitC 59 s).getD 1 []) := by rw [← e2]; exact hx14
       have g2 : x15.l = splitC 32 ((splitC 59 s).getD 2 []) := by rw [← e2]; exact hx15
       have c0 : (x13.cut 1 x13.l.length).l = (splitC 32 ((splitC 59 s).getD 0 [])).tail := by rw [Sl.cut_full, g0, List.drop_one]
       have c1 : (x14.cut 1 x14.l.length).l = (splitC 32 ((splitC 59 s).getD 1 [])).tail := by rw [Sl.cut_full, g1, List.drop_one]
       have c2 : (x15.cut 1 x15.l.length).l = (splitC 32 ((splitC 59 s).getD 2 [])).tail := by rw [Sl.cut_full, g2, List.drop_one]
       simp only [PPolicy.lg, polS, polOf, c0, c1, c2, TPolicy.mk.injEq, true_and]
       rw [← e2]
       first
        | (rw [if_neg (show ¬ 3 < x2.l.length from fun h => by omega)]; done)
        | (rw [if_pos (show 3 < x2.l.length from Int.ofNat_lt.1 Q7)]; done)
        | (rw [if_pos (show 3 < x2.l.length from Int.ofNat_lt.1 Q7)]
           simp only [nonceS, nonceI]
           first
             | (rfl; done)
             | (rw [if_neg Q7]; done)
             | (rw [if_pos Q7, List.take_of_length_le (by simp)]; done)
             | (rw [if_pos Q7]; done))
      refine WL.callp hs Q0 (Yc.func Q0 fn62) (c_spec_FormatPolicy (⟨true, (x13.cut 1 x13.l.length), (x14.cut 1 x14.l.length), (x15.cut 1 x15.l.length), (((x2.l.getD 3 []).drop 6).take ((x2.l.getD 3 []).length - 6))⟩ : PPolicy) _ ⟨trivial, (Sl.Ok.cut (hs.okow (x := x13) (F := F13) Q1) (by rw [hx13]; exact List.length_pos_iff.2 (splitC_ne _ _)) (by exact Nat.le_refl _)), (Sl.Ok.cut (hs.okow (x := x14) (F := F14) Q1) (by rw [hx14]; exact List.length_pos_iff.2 (splitC_ne _ _)) (by exact Nat.le_refl _)), (Sl.Ok.cut (hs.okow (x := x15) (F := F15) Q1) (by rw [hx15]; exact List.length_pos_iff.2 (splitC_ne _ _)) (by exact Nat.le_refl _)), (by show WfS _; unfold WfS; simp only [List.length_take, List.length_drop]; omega)⟩ (by rw [hpl9]; have := polS_size (s := s) (by rw [← show x2.l = splitC 59 s from hx2]; omega); omega)) ?_
      clear hs; intro w hs
      refine Qm ?_
      refine WL.p Q0 (Yl.nes Q0 Q0) ?_
      refine WL.next ?_
      refine WC.condS Q0 (fun h5 => ?_) (fun h5 => ?_)
      ·
       replace h5 := not_eq_true h5
       replace h5 := of_decide_eq_false h5
       refine WC.seq ?_
       refine WL.p Q0 (Yl.build bt26 Q0 Q4) ?_
       refine WL.s (Yr.storeB hs Q0 Q0 Q0 Q5 Q3 Q0 (by exact szf26)) ?_
       clear hs; rintro _ w hs
       refine Qa ?_
       refine WL.next ?_
       refine WC.ret ?_
       refine At.thenret ?_
       refine fin2c rfl agg26 Q0 Q0 hs Q1 Q0 ?_
       refine Ret.mk hs ?_
       rw [hpl9] at h5
       have hb9 : policyIs s = false := policyIs_bad h1 h5
       exact ⟨⟨false, ⟨[], none, 0⟩, ⟨[], none, 0⟩, ⟨[], none, 0⟩, []⟩, by rw [hb9]; rfl, (policyOf_no (.inr hb9)).symm, ⟨⟨[], PPolicy.zown _, .nil, fun b h => by cases h⟩⟩⟩
      ·
       replace h5 := not_eq_false h5
       replace h5 := of_decide_eq_true h5
       refine WC.skipn ?_
       refine WC.seq ?_
       refine WL.p Q0 (Yl.loadAB agg26 Q0 hs Q1 Q0 Q0) ?_
       refine WL.s (Yr.storeB hs Q0 Q0 Q0 Q5 Q3 Q0 (by exact szf26)) ?_
       clear hs; rintro _ w hs
       refine Qa ?_
       refine WL.next ?_
       refine WC.ret ?_
       refine fin2c rfl agg26 Q0 Q0 hs Q1 Q0 ?_
       refine Ret.mk hs ?_
       rw [hpl9] at h5
       have hq9 : x2.l = splitC 59 s := hx2
       have h49 : 3 ≤ (splitC 59 s).length := by rw [← hq9]; omega
       have hb9 : policyIs s = true := policyIs_good h5 h49
       obtain ⟨G90, hs⟩ := Sat.cutow (lo := 1) (hi := x13.l.length) (hs.sel (D := [ow x13 F13]) Q2) (by rw [hx13]; exact List.length_pos_iff.2 (splitC_ne _ _)) (Nat.le_refl _)
       obtain ⟨G91, hs⟩ := Sat.cutow (lo := 1) (hi := x14.l.length) (hs.sel (D := [ow x14 F14]) Q2) (by rw [hx14]; exact List.length_pos_iff.2 (splitC_ne _ _)) (Nat.le_refl _)
       obtain ⟨G92, hs⟩ := Sat.cutow (lo := 1) (hi := x15.l.length) (hs.sel (D := [ow x15 F15]) Q2) (by rw [hx15]; exact List.length_pos_iff.2 (splitC_ne _ _)) (Nat.le_refl _)
       refine ⟨(⟨true, (x13.cut 1 x13.l.length), (x14.cut 1 x14.l.length), (x15.cut 1 x15.l.length), (((x2.l.getD 3 []).drop 6).take ((x2.l.getD 3 []).length - 6))⟩ : PPolicy), by rw [hb9]; rfl, hpl9.trans (policyOf_good h1 hb9).symm, ?_⟩
       exact (PPolicy.join _ (hs.only (D := [ow (x13.cut 1 x13.l.length) G90, ow (x14.cut 1 x14.l.length) G91, ow (x15.cut 1 x15.l.length) G92]) Q2) trivial (by show WfS _; unfold WfS; first | (simp only [List.length_take, List.length_drop]; omega) | simp)).fresh List.mem_cons_self
     ·
      replace h4 := of_decide_eq_false h4
      refine WC.skipn ?_
      refine WC.seq' ?_
      refine WC.seq ?_
      refine WL.p Q0 (Yl.loadAB agg26 Q0 hs Q1 Q0 Q0) ?_
      have hpl9 : PPolicy.lg (⟨true, (x13.cut 1 x13.l.length), (x14.cut 1 x14.l.length), (x15.cut 1 x15.l.length), ([] : Str)⟩ : PPolicy) = polS s := by
       have e2 : x2.l = splitC 59 s := hx2
       have g0 : x13.l = splitC 32 ((splitC 59 s).getD 0 []) := by rw [← e2]; exact hx13
       have g1 : x14.l = splitC 32 ((splitC 59 s).getD 1 []) := by rw [← e2]; exact hx14
       have g2 : x15.l = splitC 32 ((splitC 59 s).getD 2 []) := by rw [← e2]; exact hx15
       have c0 : (x13.cut 1 x13.l.length).l = (splitC 32 ((splitC 59 s).getD 0 [])).tail := by rw [Sl.cut_full, g0, List.drop_one]
       have c1 : (x14.cut 1 x14.l.length).l = (splitC 32 ((splitC 59 s).getD 1 [])).tail := by rw [Sl.cut_full, g1, List.drop_one]
       have c2 : (x15.cut 1 x15.l.length).l = (splitC 32 ((splitC 59 s).getD 2 [])).tail := by rw [Sl.cut_full, g2, List.drop_one]
       simp only [PPolicy.lg, polS, polOf, c0, c1, c2, TPolicy.mk.injEq, true_and]
       rw [← e2]
       first
        | (rw [if_neg (show ¬ 3 < x2.l.length from fun h => by omega)]; done)
        | (rw [if_pos (show 3 < x2.l.length from Int.ofNat_lt.1 Q7)]; done)
        | (rw [if_pos (show 3 < x2.l.length from Int.ofNat_lt.1 Q7)]
           simp only [nonceS, nonceI]
           first
             | (rfl; done)
             | (rw [if_neg Q7]; done)
             | (rw [if_pos Q7, List.take_of_length_le (by simp)]; done)
             | (rw [if_pos Q7]; done))
      refine WL.callp hs Q0 (Yc.func Q0 fn62) (c_spec_FormatPolicy (⟨true, (x13.cut 1 x13.l.length), (x14.cut 1 x14.l.length), (x15.cut 1 x15.l.length), ([] : Str)⟩ : PPolicy) _ ⟨trivial, (Sl.Ok.cut (hs.okow (x := x13) (F := F13) Q1) (by rw [hx13]; exact List.length_pos_iff.2 (splitC_ne _ _)) (by exact Nat.le_refl _)), (Sl.Ok.cut (hs.okow (x := x14) (F := F14) Q1) (by rw [hx14]; exact List.length_pos_iff.2 (splitC_ne _ _)) (by exact Nat.le_refl _)), (Sl.Ok.cut (hs.okow (x := x15) (F := F15) Q1) (by rw [hx15]; exact List.length_pos_iff.2 (splitC_ne _ _)) (by exact Nat.le_refl _)), (show WfS [] from Nat.zero_le _)⟩ (by rw [hpl9]; have := polS_size (s := s) (by rw [← show x2.l = splitC 59 s from hx2]; omega); omega)) ?_
      clear hs; intro w hs
      refine Qm ?_
      refine WL.p Q0 (Yl.nes Q0 Q0) ?_
      refine WL.next ?_
      refine WC.condS Q0 (fun h5 => ?_) (fun h5 => ?_)
      ·
       replace h5 := not_eq_true h5
       replace h5 := of_decide_eq_false h5
       refine WC.seq ?_
       refine WL.p Q0 (Yl.build bt26 Q0 Q4) ?_
       refine WL.s (Yr.storeB hs Q0 Q0 Q0 Q5 Q3 Q0 (by exact szf26)) ?_
       clear hs; rintro _ w hs
       refine Qa ?_
       refine WL.next ?_
       refine WC.ret ?_
       refine At.thenret ?_
       refine fin2c rfl agg26 Q0 Q0 hs Q1 Q0 ?_
       refine Ret.mk hs ?_
       rw [hpl9] at h5
       have hb9 : policyIs s = false := policyIs_bad h1 h5
       exact ⟨⟨false, ⟨[], none, 0⟩, ⟨[], none, 0⟩, ⟨[], none, 0⟩, []⟩, by rw [hb9]; rfl, (policyOf_no (.inr hb9)).symm, ⟨⟨[], PPolicy.zown _, .nil, fun b h => by cases h⟩⟩⟩
      ·
       replace h5 := not_eq_false h5
       replace h5 := of_decide_eq_true h5
       refine WC.skipn ?_
       refine WC.seq ?_
       refine WL.p Q0 (Yl.loadAB agg26 Q0 hs Q1 Q0 Q0) ?_
       refine WL.s (Yr.storeB hs Q0 Q0 Q0 Q5 Q3 Q0 (by exact szf26)) ?_
       clear hs; rintro _ w hs
       refine Qa ?_
       refine WL.next ?_
       refine WC.ret ?_
       refine fin2c rfl agg26 Q0 Q0 hs Q1 Q0 ?_
       refine Ret.mk hs ?_
       rw [hpl9] at h5
       have hq9 : x2.l = splitC 59 s := hx2
       have h49 : 3 ≤ (splitC 59 s).length := by rw [← hq9]; omega
       have hb9 : policyIs s = true := policyIs_good h5 h49
       obtain ⟨G90, hs⟩ := Sat.cutow (lo := 1) (hi := x13.l.length) (hs.sel (D := [ow x13 F13]) Q2) (by rw [hx13]; exact List.length_pos_iff.2 (splitC_ne _ _)) (Nat.le_refl _)
       obtain ⟨G91, hs⟩ := Sat.cutow (lo := 1) (hi := x14.l.length) (hs.sel (D := [ow x14 F14]) Q2) (by rw [hx14]; exact List.length_pos_iff.2 (splitC_ne _ _)) (Nat.le_refl _)
       obtain ⟨G92, hs⟩ := Sat.cutow (lo := 1) (hi := x15.l.length) (hs.sel (D := [ow x15 F15]) Q2) (by rw [hx15]; exact List.length_pos_iff.2 (splitC_ne _ _)) (Nat.le_refl _)
       refine ⟨(⟨true, (x13.cut 1 x13.l.length), (x14.cut 1 x14.l.length), (x15.cut 1 x15.l.length), ([] : Str)⟩ : PPolicy), by rw [hb9]; rfl, hpl9.trans (policyOf_good h1 hb9).symm, ?_⟩
       exact (PPolicy.join _ (hs.only (D := [ow (x13.cut 1 x13.l.length) G90, ow (x14.cut 1 x14.l.length) G91, ow (x15.cut 1 x15.l.length) G92]) Q2) trivial (by show WfS _; unfold WfS; first | (simp only [List.length_take, List.length_drop]; omega) | simp)).fresh List.mem_cons_self
    ·
     replace h3 := of_decide_eq_false h3
     refine WL.skip (d := 34) Q0 Q0 Q0 Q0 ?_
     refine WL.skip (d := 34) Q0 Q0 Q0 Q0 ?_
     refine WL.skip (d := 34) Q0 Q0 Q0 Q0 ?_
     refine WL.skip (d := 34) Q0 Q0 Q0 Q0 ?_
     refine WL.skip (d := 34) Q0 Q0 Q0 Q0 ?_
     refine WL.p Q0 (Yl.pickF Q0 Q0) ?_
     refine WL.next ?_
     refine WC.condF Q0 ?_
     refine WC.skipn ?_
     refine WC.seq' ?_
     refine WC.seq ?_
     refine WL.p Q0 (Yl.loadAB agg26 Q0 hs Q1 Q0 Q0) ?_
     have hpl9 : PPolicy.lg (⟨true, (x13.cut 1 x13.l.length), (x14.cut 1 x14.l.length), (x15.cut 1 x15.l.length), ([] : Str)⟩ : PPolicy) = polS s := by
      have e2 : x2.l = splitC 59 s := hx2
      have g0 : x13.l = splitC 32 ((splitC 59 s).getD 0 []) := by rw [← e2]; exact hx13
      have g1 : x14.l = splitC 32 ((splitC 59 s).getD 1 []) := by rw [← e2]; exact hx14
      have g2 : x15.l = splitC 32 ((splitC 59 s).getD 2 []) := by rw [← e2]; exact hx15
      have c0 : (x13.cut 1 x13.l.length).l = (splitC 32 ((splitC 59 s).getD 0 [])).tail := by rw [Sl.cut_full, g0, List.drop_one]
      have c1 : (x14.cut 1 x14.l.length).l = (splitC 32 ((splitC 59 s).getD 1 [])).tail := by rw [Sl.cut_full, g1, List.drop_one]
      have c2 : (x15.cut 1 x15.l.length).l = (splitC 32 ((splitC 59 s).getD 2 [])).tail := by rw [Sl.cut_full, g2, List.drop_one]
      simp only [PPolicy.lg, polS, polOf, c0, c1, c2, TPolicy.mk.injEq, true_and]
      rw [← e2]
      first
       | (rw [if_neg (show ¬ 3 < x2.l.length from fun h => by omega)]; done)
       | (rw [if_pos (show 3 < x2.l.length from Int.ofNat_lt.1 Q7)]; done)
       | (rw [if_pos (show 3 < x2.l.length from Int.ofNat_lt.1 Q7)]
          simp only [nonceS, nonceI]
          first
            | (rfl; done)
            | (rw [if_neg Q7]; done)
            | (rw [if_pos Q7, List.take_of_length_le (by simp)]; done)
            | (rw [if_pos Q7]; done))
     refine WL.callp hs Q0 (Yc.func Q0 fn62) (c_spec_FormatPolicy (⟨true, (x13.cut 1 x13.l.length), (x14.cut 1 x14.l.length), (x15.cut 1 x15.l.length), ([] : Str)⟩ : PPolicy) _ ⟨trivial, (Sl.Ok.cut (hs.okow (x := x13) (F := F13) Q1) (by rw [hx13]; exact List.length_pos_iff.2 (splitC_ne _ _)) (by exact Nat.le_refl _)), (Sl.Ok.cut (hs.okow (x := x14) (F := F14) Q1) (by rw [hx14]; exact List.length_pos_iff.2 (splitC_ne _ _)) (by exact Nat.le_refl _)), (Sl.Ok.cut (hs.okow (x := x15) (F := F15) Q1) (by rw [hx15]; exact List.length_pos_iff.2 (splitC_ne _ _)) (by exact Nat.le_refl _)), (show WfS [] from Nat.zero_le _)⟩ (by rw [hpl9]; have := polS_size (s := s) (by rw [← show x2.l = splitC 59 s from hx2]; omega); omega)) ?_
     clear hs; intro w hs
     refine Qm ?_
     refine WL.p Q0 (Yl.nes Q0 Q0) ?_
     refine WL.next ?_
     refine WC.condS Q0 (fun h4 => ?_) (fun h4 => ?_)
     ·
      replace h4 := not_eq_true h4
      replace h4 := of_decide_eq_false h4
      refine WC.seq ?_
      refine WL.p Q0 (Yl.build bt26 Q0 Q4) ?_
      refine WL.s (Yr.storeB hs Q0 Q0 Q0 Q5 Q3 Q0 (by exact szf26)) ?_
      clear hs; rintro _ w hs
      refine Qa ?_
      refine WL.next ?_
      refine WC.ret ?_
      refine At.thenret ?_
      refine fin2c rfl agg26 Q0 Q0 hs Q1 Q0 ?_
      refine Ret.mk hs ?_
      rw [hpl9] at h4
      have hb9 : policyIs s = false := policyIs_bad h1 h4
      exact ⟨⟨false, ⟨[], none, 0⟩, ⟨[], none, 0⟩, ⟨[], none, 0⟩, []⟩, by rw [hb9]; rfl, (policyOf_no (.inr hb9)).symm, ⟨⟨[], PPolicy.zown _, .nil, fun b h => by cases h⟩⟩⟩
     ·
      replace h4 := not_eq_false h4
      replace h4 := of_decide_eq_true h4
      refine WC.skipn ?_
      refine WC.seq ?_
      refine WL.p Q0 (Yl.loadAB agg26 Q0 hs Q1 Q0 Q0) ?_
      refine WL.s (Yr.storeB hs Q0 Q0 Q0 Q5 Q3 Q0 (by exact szf26)) ?_
      clear hs; rintro _ w hs
      refine Qa ?_
      refine WL.next ?_
      refine WC.ret ?_
      refine fin2c rfl agg26 Q0 Q0 hs Q1 Q0 ?_
      refine Ret.mk hs ?_
      rw [hpl9] at h4
      have hq9 : x2.l = splitC 59 s := hx2
      have h49 : 3 ≤ (splitC 59 s).length := by rw [← hq9]; omega
      have hb9 : policyIs s = true := policyIs_good h4 h49
      obtain ⟨G90, hs⟩ := Sat.cutow (lo := 1) (hi := x13.l.length) (hs.sel (D := [ow x13 F13]) Q2) (by rw [hx13]; exact List.length_pos_iff.2 (splitC_ne _ _)) (Nat.le_refl _)
      obtain ⟨G91, hs⟩ := Sat.cutow (lo := 1) (hi := x14.l.length) (hs.sel (D := [ow x14 F14]) Q2) (by rw [hx14]; exact List.length_pos_iff.2 (splitC_ne _ _)) (Nat.le_refl _)
      obtain ⟨G92, hs⟩ := Sat.cutow (lo := 1) (hi := x15.l.length) (hs.sel (D := [ow x15 F15]) Q2) (by rw [hx15]; exact List.length_pos_iff.2 (splitC_ne _ _)) (Nat.le_refl _)
      refine ⟨(⟨true, (x13.cut 1 x13.l.length), (x14.cut 1 x14.l.length), (x15.cut 1 x15.l.length), ([] : Str)⟩ : PPolicy), by rw [hb9]; rfl, hpl9.trans (policyOf_good h1 hb9).symm, ?_⟩
      exact (PPolicy.join _ (hs.only (D := [ow (x13.cut 1 x13.l.length) G90, ow (x14.cut 1 x14.l.length) G91, ow (x15.cut 1 x15.l.length) G92]) Q2) trivial (by show WfS _; unfold WfS; first | (simp only [List.length_take, List.length_drop]; omega) | simp)).fresh List.mem_cons_self

theorem c_spec_IsResponse (x : TResponse) (w : World) (h_x : Ph.ok w x) (hb : x.policy.length ≤ 1048576) : Calls Tryd.prog 44 [.agg #[I x.status, I x.kind, S x.body, I x.age, Bo x.shares, S x.policy]].toArray w (RetP w (Bo x.isv)) := by
 refine enterN 33 Tryd.func44 rfl rfl rfl ?_
 have hs := Sat.start w
 refine WC.seq ?_
 refine WL.r Q0 (Yr.box hs Q0 Q0) ?_
 clear hs; rintro _ w ⟨b1, rfl, hb, hs⟩; clear hb
 refine Qa ?_
 refine WL.next ?_
 refine WC.seq ?_
 refine WL.p Q0 (Yl.fieldAddr fa45_5 Q0) ?_
 refine WL.p Q0 (Yl.loadB sca9 Q0 hs Q1 Q0) ?_
 refine WL.call hs Q0 (Yc.func Q0 fn15) (c_spec_ParsePolicy _ _ Q10) ?_
 have hs0 := hs; clear hs; intro v w hb hR hs; clear hs
 obtain ⟨x2, rfl, hx2, hf2⟩ := hR
 obtain ⟨F2, hs⟩ := hf2.sat hs0 hb; clear hs0 hf2
 refine Qm ?_
 refine WL.p Q0 (Yl.extract Q0 Q0) ?_
 refine WL.p Q0 (Yl.extract Q0 Q0) ?_
 refine WL.r Q0 (Yr.alloc hs zt26) ?_
 clear hs; rintro _ w ⟨b3, rfl, hb, hs⟩; clear hb
 refine WL.s (Yr.storeB hs Q0 Q0 Q0 Q5 Q3 Q0 (by exact szf26)) ?_
 clear hs; rintro _ w hs
 refine Qa ?_
 refine WL.next ?_
 refine WC.seq ?_
 refine WL.p Q0 (Yl.fieldAddr fa45_0 Q0) ?_
 refine WL.p Q0 (Yl.loadB sca3 Q0 hs Q1 Q0) ?_
 refine WL.callp hs Q0 (Yc.func Q0 fn76) (c_spec_l1In _ _ _ _) ?_
 clear hs; intro w hs
 refine Qm ?_
 refine WL.split (d := 14) Q0 (fun h1 => ?_) (fun h1 => ?_)
 ·
  replace h1 := inR_true.1 h1
  refine WL.run (d := 14) Q0 Q0 ?_
  refine WL.p Q0 (Yl.fieldAddr fa45_1 Q0) ?_
  refine WL.run (d := 14) Q0 Q0 ?_
  refine WL.p Q0 (Yl.loadB sca3 Q0 hs Q1 Q0) ?_
  refine WL.run (d := 14) Q0 Q0 ?_
  refine WL.callp hs Q0 (Yc.func Q0 fn76) (c_spec_l1In _ _ _ _) ?_
  clear hs; intro w hs
  refine WL.p Q0 (Yl.pickT Q0 Q0) ?_
  refine Qm ?_
  refine WL.split (d := 19) Q0 (fun h2 => ?_) (fun h2 => ?_)
  ·
   replace h2 := inR_true.1 h2
   refine WL.run (d := 19) Q0 Q0 ?_
   refine WL.p Q0 (Yl.fieldAddr fa45_2 Q0) ?_
   refine WL.run (d := 19) Q0 Q0 ?_
   refine WL.p Q0 (Yl.loadB sca9 Q0 hs Q1 Q0) ?_
   refine WL.run (d := 19) Q0 Q0 ?_
   refine WL.p Q0 (Yl.len_str str9 Q0) ?_
   refine WL.run (d := 19) Q0 Q0 ?_
   refine WL.p Q0 (Yl.leq Q0 Q0) ?_
   refine WL.p Q0 (Yl.pickT Q0 Q0) ?_
   refine Qm ?_
   refine WL.split (d := 25) Q0 (fun h3 => ?_) (fun h3 => ?_)
   ·
    replace h3 := of_decide_eq_true h3
    refine WL.run (d := 25) Q0 Q0 ?_
    refine WL.p Q0 (Yl.fieldAddr fa45_3 Q0) ?_
    refine WL.run (d := 25) Q0 Q0 ?_
    refine WL.p Q0 (Yl.loadB sca3 Q0 hs Q1 Q0) ?_
    refine WL.run (d := 25) Q0 Q0 ?_
    refine WL.callp hs Q0 (Yc.func Q0 fn76) (c_spec_l1In _ _ _ _) ?_
    clear hs; intro w hs
    refine WL.p Q0 (Yl.pickT Q0 Q0) ?_
    refine Qm ?_
    refine WL.split (d := 30) Q0 (fun h4 => ?_) (fun h4 => ?_)
    ·
     replace h4 := inR_true.1 h4
     refine WL.run (d := 30) Q0 Q0 ?_
     refine Qm ?_
     refine WL.p Q0 (Yl.pickT Q0 Q0) ?_
     refine Qa ?_
     refine WL.next ?_
     refine WC.ret ?_
     refine fin1' rfl Q0 ?_
     refine RetP.mk hs ?_
     clear hs hb h_x
     try simp only [← inR_true] at *
     try simp only [← inR_false] at *
     simp_all [TResponse.isv]
     try (intro hh; omega)
    ·
     replace h4 := inR_false.1 h4
     refine WL.skip (d := 30) Q0 Q0 Q0 Q0 ?_
     refine WL.p Q0 (Yl.pickF Q0 Q0) ?_
     refine Qa ?_
     refine WL.next ?_
     refine WC.ret ?_
     refine fin1' rfl Q0 ?_
     refine RetP.mk hs ?_
     clear hs hb h_x
     try simp only [← inR_true] at *
     try simp only [← inR_false] at *
     simp_all [TResponse.isv]
     try (intro hh; omega)
   ·
    replace h3 := of_decide_eq_false h3
    refine WL.skip (d := 25) Q0 Q0 Q0 Q0 ?_
    refine WL.skip (d := 25) Q0 Q0 Q0 Q0 ?_
    refine WL.skip (d := 25) Q0 Q0 Q0 Q0 ?_
    refine WL.p Q0 (Yl.pickF Q0 Q0) ?_
    refine Qm ?_
    refine WL.skip (d := 30) Q0 Q0 Q0 Q0 ?_
    refine WL.p Q0 (Yl.pickF Q0 Q0) ?_
    refine Qa ?_
    refine WL.next ?_
    refine WC.ret ?_
    refine fin1' rfl Q0 ?_
    refine RetP.mk hs ?_
    clear hs hb h_x
    try simp only [← inR_true] at *
    try simp only [← inR_false] at *
    simp_all [TResponse.isv]
    try (intro hh; omega)
  ·
   replace h2 := inR_false.1 h2
   refine WL.skip (d := 19) Q0 Q0 Q0 Q0 ?_
   refine WL.skip (d := 19) Q0 Q0 Q0 Q0 ?_
   refine WL.skip (d := 19) Q0 Q0 Q0 Q0 ?_
   refine WL.skip (d := 19) Q0 Q0 Q0 Q0 ?_
   refine WL.p Q0 (Yl.pickF Q0 Q0) ?_
   refine Qm ?_
   refine WL.skip (d := 25) Q0 Q0 Q0 Q0 ?_
   refine WL.skip (d := 25) Q0 Q0 Q0 Q0 ?_
   refine WL.skip (d := 25) Q0 Q0 Q0 Q0 ?_
   refine WL.p Q0 (Yl.pickF Q0 Q0) ?_
   refine Qm ?_
   refine WL.skip (d := 30) Q0 Q0 Q0 Q0 ?_
   refine WL.p Q0 (Yl.pickF Q0 Q0) ?_
   refine Qa ?_
   refine WL.next ?_
   refine WC.ret ?_
   refine fin1' rfl Q0 ?_
   refine RetP.mk hs ?_
   clear hs hb h_x
   try simp only [← inR_true] at *
   try simp only [← inR_false] at *
   simp_all [TResponse.isv]
   try (intro hh; omega)
 ·
  replace h1 := inR_false.1 h1
  refine WL.skip (d := 14) Q0 Q0 Q0 Q0 ?_
  refine WL.skip (d := 14) Q0 Q0 Q0 Q0 ?_
  refine WL.skip (d := 14) Q0 Q0 Q0 Q0 ?_
  refine WL.p Q0 (Yl.pickF Q0 Q0) ?_
  refine Qm ?_
  refine WL.skip (d := 19) Q0 Q0 Q0 Q0 ?_
  refine WL.skip (d := 19) Q0 Q0 Q0 Q0 ?_
  refine WL.skip (d := 19) Q0 Q0 Q0 Q0 ?_
  refine WL.skip (d := 19) Q0 Q0 Q0 Q0 ?_
  refine WL.p Q0 (Yl.pickF Q0 Q0) ?_
  refine Qm ?_
  refine WL.skip (d := 25) Q0 Q0 Q0 Q0 ?_
  refine WL.skip (d := 25) Q0 Q0 Q0 Q0 ?_
  refine WL.skip (d := 25) Q0 Q0 Q0 Q0 ?_
  refine WL.p Q0 (Yl.pickF Q0 Q0) ?_
  refine Qm ?_
  refine WL.skip (d := 30) Q0 Q0 Q0 Q0 ?_
  refine WL.p Q0 (Yl.pickF Q0 Q0) ?_
  refine Qa ?_
  refine WL.next ?_
  refine WC.ret ?_
  refine fin1' rfl Q0 ?_
  refine RetP.mk hs ?_
  clear hs hb h_x
  try simp only [← inR_true] at *
  try simp only [← inR_false] at *
  simp_all [TResponse.isv]
  try (intro hh; omega)

theorem c_impl_FitsKind (x : TResponse) (kind : Int) (w : World)   : Calls Tryd.prog 45 [.agg #[I x.status, I x.kind, S x.body, I x.age, Bo x.shares, S x.policy], I kind].toArray w (RetP w (Bo (fitsKind x.kind kind))) := by
 refine enterN 18 Tryd.func45 rfl rfl rfl ?_
 have hs := Sat.start w
 refine WC.seq ?_
 refine WL.r Q0 (Yr.box hs Q0 Q0) ?_
 clear hs; rintro _ w ⟨b1, rfl, hb, hs⟩; clear hb
 refine Qa ?_
 refine WL.next ?_
 refine WC.seq ?_
 refine WL.p Q0 (Yl.fieldAddr fa45_1 Q0) ?_
 refine WL.p Q0 (Yl.loadB sca3 Q0 hs Q1 Q0) ?_
 refine Qm ?_
 refine WL.p Q0 (Yl.eqi Q0 Q0) ?_
 refine Qm ?_
 refine WL.split (d := 9) Q0 (fun h1 => ?_) (fun h1 => ?_)
 ·
  replace h1 := of_decide_eq_true h1
  refine WL.skip (d := 9) Q0 Q0 Q0 Q0 ?_
  refine WL.skip (d := 9) Q0 Q0 Q0 Q0 ?_
  refine WL.skip (d := 9) Q0 Q0 Q0 Q0 ?_
  refine WL.skipU (d := 12) Q0 Q0 Q0 ?_
  refine WL.skipU (d := 12) Q0 Q0 Q0 ?_
  refine WL.skipU (d := 12) Q0 Q0 Q0 ?_
  refine WL.skip (d := 9) Q0 Q0 Q0 Q0 ?_
  refine WL.p Q0 (Yl.pickT Q0 Q0) ?_
  refine Qa ?_
  refine WL.next ?_
  refine WC.ret ?_
  refine fin1' rfl Q0 ?_
  refine RetP.mk hs ?_
  simp_all [fitsKind]
 ·
  replace h1 := of_decide_eq_false h1
  refine WL.run (d := 9) Q0 Q0 ?_
  refine Qm ?_
  refine WL.run (d := 9) Q0 Q0 ?_
  refine WL.p Q0 (Yl.eqi Q0 Q0) ?_
  refine WL.run (d := 9) Q0 Q0 ?_
  refine Qm ?_
  refine WL.split (d := 12) Q0 (fun h2 => ?_) (fun h2 => ?_)
  ·
   replace h2 := of_decide_eq_true h2
   refine WL.run (d := 12) Q0 Q0 ?_
   refine WL.p Q0 (Yl.fieldAddr fa45_1 Q0) ?_
   refine WL.run (d := 12) Q0 Q0 ?_
   refine WL.p Q0 (Yl.loadB sca3 Q0 hs Q1 Q0) ?_
   refine WL.run (d := 12) Q0 Q0 ?_
   refine WL.p Q0 (Yl.eqi Q0 Q0) ?_
   refine WL.run (d := 9) Q0 Q0 ?_
   refine WL.p Q0 (Yl.pickT Q0 Q0) ?_
   refine WL.p Q0 (Yl.pickF Q0 Q0) ?_
   refine Qa ?_
   refine WL.next ?_
   refine WC.ret ?_
   refine fin1' rfl Q0 ?_
   refine RetP.mk hs ?_
   simp_all [fitsKind]
  ·
   replace h2 := of_decide_eq_false h2
   refine WL.skip (d := 12) Q0 Q0 Q0 Q0 ?_
   refine WL.skip (d := 12) Q0 Q0 Q0 Q0 ?_
   refine WL.skip (d := 12) Q0 Q0 Q0 Q0 ?_
   refine WL.run (d := 9) Q0 Q0 ?_
   refine WL.p Q0 (Yl.pickF Q0 Q0) ?_
   refine WL.p Q0 (Yl.pickF Q0 Q0) ?_
   refine Qa ?_
   refine WL.next ?_
   refine WC.ret ?_
   refine fin1' rfl Q0 ?_
   refine RetP.mk hs ?_
   simp_all [fitsKind]

theorem c_spec_FitsKind (x : TResponse) (kind : Int) (w : World)   : Calls Tryd.prog 46 [.agg #[I x.status, I x.kind, S x.body, I x.age, Bo x.shares, S x.policy], I kind].toArray w (RetP w (Bo (fitsKind x.kind kind))) := by
 refine enterN 18 Tryd.func46 rfl rfl rfl ?_
 have hs := Sat.start w
 refine WC.seq ?_
 refine WL.r Q0 (Yr.box hs Q0 Q0) ?_
 clear hs; rintro _ w ⟨b1, rfl, hb, hs⟩; clear hb
 refine Qa ?_
 refine WL.next ?_
 refine WC.seq ?_
 refine WL.p Q0 (Yl.fieldAddr fa45_1 Q0) ?_
 refine WL.p Q0 (Yl.loadB sca3 Q0 hs Q1 Q0) ?_
 refine Qm ?_
 refine WL.p Q0 (Yl.eqi Q0 Q0) ?_
 refine Qm ?_
 refine WL.split (d := 9) Q0 (fun h1 => ?_) (fun h1 => ?_)
 ·
  replace h1 := of_decide_eq_true h1
  refine WL.skip (d := 9) Q0 Q0 Q0 Q0 ?_
  refine WL.skip (d := 9) Q0 Q0 Q0 Q0 ?_
  refine WL.skip (d := 9) Q0 Q0 Q0 Q0 ?_
  refine WL.skipU (d := 12) Q0 Q0 Q0 ?_
  refine WL.skipU (d := 12) Q0 Q0 Q0 ?_
  refine WL.skipU (d := 12) Q0 Q0 Q0 ?_
  refine WL.skip (d := 9) Q0 Q0 Q0 Q0 ?_
  refine WL.p Q0 (Yl.pickT Q0 Q0) ?_
  refine Qa ?_
  refine WL.next ?_
  refine WC.ret ?_
  refine fin1' rfl Q0 ?_
  refine RetP.mk hs ?_
  simp_all [fitsKind]
 ·
  replace h1 := of_decide_eq_false h1
  refine WL.run (d := 9) Q0 Q0 ?_
  refine Qm ?_
  refine WL.run (d := 9) Q0 Q0 ?_
  refine WL.p Q0 (Yl.eqi Q0 Q0) ?_
  refine WL.run (d := 9) Q0 Q0 ?_
  refine Qm ?_
  refine WL.split (d := 12) Q0 (fun h2 => ?_) (fun h2 => ?_)
  ·
   replace h2 := of_decide_eq_true h2
   refine WL.run (d := 12) Q0 Q0 ?_
   refine WL.p Q0 (Yl.fieldAddr fa45_1 Q0) ?_
   refine WL.run (d := 12) Q0 Q0 ?_
   refine WL.p Q0 (Yl.loadB sca3 Q0 hs Q1 Q0) ?_
   refine WL.run (d := 12) Q0 Q0 ?_
   refine WL.p Q0 (Yl.eqi Q0 Q0) ?_
   refine WL.run (d := 9) Q0 Q0 ?_
   refine WL.p Q0 (Yl.pickT Q0 Q0) ?_
   refine WL.p Q0 (Yl.pickF Q0 Q0) ?_
   refine Qa ?_
   refine WL.next ?_
   refine WC.ret ?_
   refine fin1' rfl Q0 ?_
   refine RetP.mk hs ?_
   simp_all [fitsKind]
  ·
   replace h2 := of_decide_eq_false h2
   refine WL.skip (d := 12) Q0 Q0 Q0 Q0 ?_
   refine WL.skip (d := 12) Q0 Q0 Q0 Q0 ?_
   refine WL.skip (d := 12) Q0 Q0 Q0 Q0 ?_
   refine WL.run (d := 9) Q0 Q0 ?_
   refine WL.p Q0 (Yl.pickF Q0 Q0) ?_
   refine WL.p Q0 (Yl.pickF Q0 Q0) ?_
   refine Qa ?_
   refine WL.next ?_
   refine WC.ret ?_
   refine fin1' rfl Q0 ?_
   refine RetP.mk hs ?_
   simp_all [fitsKind]

theorem c_impl_SizeResponse (x : TResponse) (w : World)  (hb : x.body.length ≤ 1048576) : Calls Tryd.prog 47 [.agg #[I x.status, I x.kind, S x.body, I x.age, Bo x.shares, S x.policy]].toArray w (RetP w (I (x.body.length + 20))) := by
 refine enterN 7 Tryd.func47 rfl rfl rfl ?_
 have hs := Sat.start w
 refine WC.seq ?_
 refine WL.r Q0 (Yr.box hs Q0 Q0) ?_
 clear hs; rintro _ w ⟨b1, rfl, hb, hs⟩; clear hb
 refine Qa ?_
 refine WL.next ?_
 refine WC.seq ?_
 refine WL.p Q0 (Yl.fieldAddr fa45_2 Q0) ?_
 refine WL.p Q0 (Yl.loadB sca9 Q0 hs Q1 Q0) ?_
 refine WL.p Q0 (Yl.len_str str9 Q0) ?_
 refine WL.p Q0 (Yl.add Q0 Q0 Q7) ?_
 refine Qa ?_
 refine WL.next ?_
 refine WC.ret ?_
 refine fin1' rfl Q0 ?_
 refine RetP.mk hs ?_
 rfl

theorem c_impl_NotFound  (w : World)   : Calls Tryd.prog 48 [].toArray w (RetP w (.agg (Ph.enc notFound).toArray)) := by
 refine enterN 2 Tryd.func48 rfl rfl rfl ?_
 have hs := Sat.start w
 refine WC.seq ?_
 refine WL.r Q0 (Yr.alloc hs zt45) ?_
 clear hs; rintro _ w ⟨b1, rfl, hb, hs⟩; clear hb
 refine WL.next ?_
 refine WC.seq ?_
 refine WL.p Q0 (Yl.build bt45 Q0 Q4) ?_
 refine WL.s (Yr.storeB hs Q0 Q0 Q0 Q5 Q3 Q0 (by exact szf45)) ?_
 clear hs; rintro _ w hs
 refine WL.next ?_
 refine WC.ret ?_
 refine fin1c rfl agg45 Q0 hs Q1 Q0 ?_
 refine RetP.mk hs ?_
 rfl

theorem c_laws_FnDigests (code : (Sl UInt8)) (w : World) (h_code : Ph.ok w code) (hm_ : ∃ m, w.cell? ⟨0, 0, none⟩ = some (.int .i64 m)) (ht_ : Tab10 Tryd.prog w) : Calls Tryd.prog 6 [Sl.v code].toArray w (RetP w (Bo true)) := by
 refine enterN 92 Tryd.func6 rfl rfl rfl ?_
 have hs := Sat.start w
 refine WC.seq ?_
 refine Qa ?_
 refine WL.next ?_
 refine WC.seq' ?_
 refine WC.seq ?_
 refine Qm ?_
 refine WL.callp hs Q0 (Yc.func Q0 fn7) (c_laws_big _ _ (Ph.old h_code hs)) ?_
 clear hs; intro w hs
 refine WL.next ?_
 refine WC.condS Q0 (fun h1 => ?_) (fun h1 => ?_)
 ·
  replace h1 := of_decide_eq_true h1
  refine WC.seq ?_
  refine Qa ?_
  refine WL.next ?_
  refine WC.ret ?_
  refine At.thenret ?_
  refine fin1' rfl Q0 ?_
  refine RetP.mk hs ?_
  first
   | rfl
   | (clear hs; simp_all [digest_own, digest_next]; done)
   | (clear hs; simp_all [digest_own, digest_next, checkDigest]; done)
   | (clear hs; simp_all [TResponse.isv, inR]; done)
   | (clear hs; simp_all [notFound]; done)
 ·
  replace h1 := of_decide_eq_false h1
  refine WC.skipn ?_
  refine WC.seq ?_
  refine Qm ?_
  refine WL.callx hs Q0 (Yc.func Q0 fn36) (c_spec_DrawCheckDigest _ _ (Ph.old h_code hs)) ?_
  clear hs; intro v w ho hR hs
  obtain ⟨x1_s, x1_t, rfl, ⟨hokx1_s, hokx1_t⟩, hx1, hf1⟩ := hR
  clear ho hf1
  have hd9 := digestN_bd x1_s
  refine Qm ?_
  refine WL.p Q0 (Yl.extract Q0 Q0) ?_
  refine WL.p Q0 (Yl.extract Q0 Q0) ?_
  refine Qa ?_
  refine Qa ?_
  refine WL.next ?_
  refine WC.seq ?_
  refine Qm ?_
  refine WL.callp hs Q0 (Yc.func Q0 fn37) (c_impl_DigestOf _ _ (Flat.any hokx1_s) Q7) ?_
  clear hs; intro w hs
  refine Qa ?_
  refine WL.next ?_
  refine WC.seq ?_
  refine Qm ?_
  refine WL.callx hs Q0 (Yc.func Q0 fn38) (c_spec_DrawIsResponse _ _ (Ph.old h_code hs)) ?_
  clear hs; intro v w ho hR hs
  obtain ⟨x2, rfl, hokx2, hx2, hf2⟩ := hR
  clear ho hf2
  refine WL.r Q0 (Yr.alloc hs zt45) ?_
  clear hs; rintro _ w ⟨b3, rfl, hb, hs⟩; clear hb
  refine WL.s (Yr.storeB hs Q0 Q0 Q0 Q5 Q3 Q0 (by exact szf45)) ?_
  clear hs; rintro _ w hs
  refine WL.next ?_
  refine WC.seq ?_
  refine Qm ?_
  refine WL.callx hs Q0 (Yc.func Q0 fn39) (c_spec_DrawFitsKind _ _ (Ph.old h_code hs)) ?_
  clear hs; intro v w ho hR hs
  obtain ⟨x4_x, x4_k, rfl, ⟨hokx4_x, hokx4_k⟩, hx4, hf4⟩ := hR
  clear ho hf4
  refine Qm ?_
  refine WL.p Q0 (Yl.extract Q0 Q0) ?_
  refine WL.p Q0 (Yl.extract Q0 Q0) ?_
  refine WL.r Q0 (Yr.alloc hs zt45) ?_
  clear hs; rintro _ w ⟨b5, rfl, hb, hs⟩; clear hb
  refine WL.s (Yr.storeB hs Q0 Q0 Q0 Q5 Q3 Q0 (by exact szf45)) ?_
  clear hs; rintro _ w hs
  refine Qa ?_
  refine WL.next ?_
  refine WC.quietn mixed Q6 hs ?_
  refine WQ.p Q0 (fun w hs => Yl.move Q0) ?_
  refine WQ.p Q0 (fun w hs => Yl.move Q0) ?_
  refine WQ.callp Q0 (fun w => Yc.func Q0 fn40) (fun w hs => (c_impl_CheckDigest _ _ _ (Flat.any hokx1_s) Q7 (by first | assumption | exact Sat.tab hs (by assumption)))) (fun _ _ hs hb => hs.ext hb) ?_
  refine WQ.p Q0 (fun w hs => Yl.move Q0) ?_
  refine WQ.p Q0 (fun w hs => Yl.eqs Q0 Q0) ?_
  refine WQ.p Q0 (fun w hs => Yl.move Q0) ?_
  refine WQ.split (d := 30) Q0 (fun h2 => ?_) (fun h2 => ?_)
  ·
   replace h2 := of_decide_eq_true h2
   refine WQ.skip (d := 30) Q0 Q0 Q0 Q0 ?_
   refine WQ.skip (d := 30) Q0 Q0 Q0 Q0 ?_
   refine WQ.skip (d := 30) Q0 Q0 Q0 Q0 ?_
   refine WQ.skip (d := 30) Q0 Q0 Q0 Q0 ?_
   refine WQ.p Q0 (fun w hs => Yl.pickT Q0 Q0) ?_
   refine WQ.p Q0 (fun w hs => Yl.eqb bool4 Q0 Q0) ?_
   refine WQ.p Q0 (fun w hs => Yl.move Q0) ?_
   refine WQ.split (d := 37) Q0 (fun h3 => ?_) (fun h3 => ?_)
   ·
    replace h3 := beq_true h3
    refine WQ.run (d := 37) Q0 Q0 ?_
    refine WQ.p Q0 (fun w hs => Yl.move Q0) ?_
    refine WQ.run (d := 37) Q0 Q0 ?_
    refine WQ.p Q0 (fun w hs => Yl.move Q0) ?_
    refine WQ.run (d := 37) Q0 Q0 ?_
    refine WQ.callp Q0 (fun w => Yc.func Q0 fn41) (fun w hs => (c_spec_FormatInt _ _ (by first | exact digestN_wf _ | exact digestN_wf1 _))) (fun _ _ hs hb => hs.ext hb) ?_
    refine WQ.run (d := 37) Q0 Q0 ?_
    refine WQ.callp Q0 (fun w => Yc.func Q0 fn40) (fun w hs => (c_impl_CheckDigest _ _ _ (Flat.any hokx1_s) Q7 (by first | assumption | exact Sat.tab hs (by assumption)))) (fun _ _ hs hb => hs.ext hb) ?_
    refine WQ.p Q0 (fun w hs => Yl.pickT Q0 Q0) ?_
    refine WQ.p Q0 (fun w hs => Yl.move Q0) ?_
    refine WQ.split (d := 43) Q0 (fun h4 => ?_) (fun h4 => ?_)
    ·
     refine WQ.run (d := 43) Q0 Q0 ?_
     refine WQ.p Q0 (fun w hs => Yl.move Q0) ?_
     refine WQ.run (d := 43) Q0 Q0 ?_
     refine WQ.p Q0 (fun w hs => Yl.move Q0) ?_
     refine WQ.run (d := 43) Q0 Q0 ?_
     refine WQ.p Q0 (fun w hs => Yl.add Q0 Q0 (by first | omega | (simp only [TResponse.size] at *; omega))) ?_
     refine WQ.run (d := 43) Q0 Q0 ?_
     refine WQ.callp Q0 (fun w => Yc.func Q0 fn41) (fun w hs => (c_spec_FormatInt _ _ (by first | exact digestN_wf _ | exact digestN_wf1 _))) (fun _ _ hs hb => hs.ext hb) ?_
     refine WQ.run (d := 43) Q0 Q0 ?_
     refine WQ.callp Q0 (fun w => Yc.func Q0 fn40) (fun w hs => (c_impl_CheckDigest _ _ _ (Flat.any hokx1_s) Q7 (by first | assumption | exact Sat.tab hs (by assumption)))) (fun _ _ hs hb => hs.ext hb) ?_
     refine WQ.run (d := 43) Q0 Q0 ?_
     refine WQ.p Q0 (fun w hs => Yl.not Q0) ?_
     refine WQ.p Q0 (fun w hs => Yl.pickT Q0 Q0) ?_
     refine WQ.p Q0 (fun w hs => Yl.move Q0) ?_
     refine WQ.split (d := 51) Q0 (fun h5 => ?_) (fun h5 => ?_)
     ·
      replace h5 := not_eq_true h5
      refine WQ.run (d := 51) Q0 Q0 ?_
      refine WQ.p Q0 (fun w hs => Yl.move Q0) ?_
      refine WQ.run (d := 51) Q0 Q0 ?_
      refine WQ.p Q0 (fun w hs => Yl.move Q0) ?_
      refine WQ.run (d := 51) Q0 Q0 ?_
      refine WQ.callp Q0 (fun w => Yc.func Q0 fn42) (fun w hs => (c_spec_DigestOf _ _ (Flat.any hokx1_s) Q7)) (fun _ _ hs hb => hs.ext hb) ?_
      refine WQ.run (d := 51) Q0 Q0 ?_
      refine WQ.p Q0 (fun w hs => Yl.eqi Q0 Q0) ?_
      refine WQ.p Q0 (fun w hs => Yl.pickT Q0 Q0) ?_
      refine WQ.p Q0 (fun w hs => Yl.move Q0) ?_
      refine WQ.split (d := 57) Q0 (fun h6 => ?_) (fun h6 => ?_)
      ·
       replace h6 := of_decide_eq_true h6
       refine WQ.run (d := 57) Q0 Q0 ?_
       refine WQ.p Q0 (fun w hs => Yl.loadAB agg45 Q0 hs Q1 Q0 Q0) ?_
       refine WQ.run (d := 57) Q0 Q0 ?_
       refine WQ.callp Q0 (fun w => Yc.func Q0 fn43) (fun w hs => (c_impl_IsResponse _ _ (Flat.any hokx2) (by first | exact Nat.zero_le _ | omega | (simp only [TResponse.size] at *; omega)) (by first | assumption | exact Sat.cellm hs (by assumption)))) (fun _ _ hs hb => hs.ext hb) ?_
       refine WQ.run (d := 57) Q0 Q0 ?_
       refine WQ.p Q0 (fun w hs => Yl.loadAB agg45 Q0 hs Q1 Q0 Q0) ?_
       refine WQ.run (d := 57) Q0 Q0 ?_
       refine WQ.callp Q0 (fun w => Yc.func Q0 fn44) (fun w hs => (c_spec_IsResponse _ _ (Flat.any hokx2) (by simp only [TResponse.size] at *; omega))) (fun _ _ hs hb => hs.ext hb) ?_
       refine WQ.run (d := 57) Q0 Q0 ?_
       refine WQ.p Q0 (fun w hs => Yl.eqb bool4 Q0 Q0) ?_
       refine WQ.p Q0 (fun w hs => Yl.pickT Q0 Q0) ?_
       refine WQ.p Q0 (fun w hs => Yl.move Q0) ?_
       refine WQ.split (d := 64) Q0 (fun h7 => ?_) (fun h7 => ?_)
       ·
        replace h7 := beq_true h7
        refine WQ.run (d := 64) Q0 Q0 ?_
        refine WQ.p Q0 (fun w hs => Yl.loadAB agg45 Q0 hs Q1 Q0 Q0) ?_
        refine WQ.run (d := 64) Q0 Q0 ?_
        refine WQ.p Q0 (fun w hs => Yl.move Q0) ?_
        refine WQ.run (d := 64) Q0 Q0 ?_
        refine WQ.callp Q0 (fun w => Yc.func Q0 fn45) (fun w hs => (c_impl_FitsKind _ _ _)) (fun _ _ hs hb => hs.ext hb) ?_
        refine WQ.run (d := 64) Q0 Q0 ?_
        refine WQ.p Q0 (fun w hs => Yl.loadAB agg45 Q0 hs Q1 Q0 Q0) ?_
        refine WQ.run (d := 64) Q0 Q0 ?_
        refine WQ.p Q0 (fun w hs => Yl.move Q0) ?_
        refine WQ.run (d := 64) Q0 Q0 ?_
        refine WQ.callp Q0 (fun w => Yc.func Q0 fn46) (fun w hs => (c_spec_FitsKind _ _ _)) (fun _ _ hs hb => hs.ext hb) ?_
        refine WQ.run (d := 64) Q0 Q0 ?_
        refine WQ.p Q0 (fun w hs => Yl.eqb bool4 Q0 Q0) ?_
        refine WQ.p Q0 (fun w hs => Yl.pickT Q0 Q0) ?_
        refine WQ.p Q0 (fun w hs => Yl.move Q0) ?_
        refine WQ.split (d := 73) Q0 (fun h8 => ?_) (fun h8 => ?_)
        ·
         replace h8 := beq_true h8
         refine WQ.run (d := 73) Q0 Q0 ?_
         refine WQ.p Q0 (fun w hs => Yl.loadAB agg45 Q0 hs Q1 Q0 Q0) ?_
         refine WQ.run (d := 73) Q0 Q0 ?_
         refine WQ.callp Q0 (fun w => Yc.func Q0 fn47) (fun w hs => (c_impl_SizeResponse _ _ (by simp only [TResponse.size] at *; omega))) (fun _ _ hs hb => hs.ext hb) ?_
         refine WQ.run (d := 73) Q0 Q0 ?_
         refine WQ.p Q0 (fun w hs => Yl.fieldAddr fa45_2 Q0) ?_
         refine WQ.run (d := 73) Q0 Q0 ?_
         refine WQ.p Q0 (fun w hs => Yl.loadB sca9 Q0 hs Q1 Q0) ?_
         refine WQ.run (d := 73) Q0 Q0 ?_
         refine WQ.p Q0 (fun w hs => Yl.len_str str9 Q0) ?_
         refine WQ.run (d := 73) Q0 Q0 ?_
         refine WQ.p Q0 (fun w hs => Yl.add Q0 Q0 (by first | omega | (simp only [TResponse.size] at *; omega))) ?_
         refine WQ.run (d := 73) Q0 Q0 ?_
         refine WQ.p Q0 (fun w hs => Yl.eqi Q0 Q0) ?_
         refine WQ.p Q0 (fun w hs => Yl.pickT Q0 Q0) ?_
         refine WQ.p Q0 (fun w hs => Yl.move Q0) ?_
         refine WQ.split (d := 82) Q0 (fun h9 => ?_) (fun h9 => ?_)
         ·
          replace h9 := of_decide_eq_true h9
          refine WQ.run (d := 82) Q0 Q0 ?_
          refine WQ.p Q0 (fun w hs => Yl.build bt45 Q0 Q4) ?_
          refine WQ.run (d := 82) Q0 Q0 ?_
          refine WQ.callp Q0 (fun w => Yc.func Q0 fn43) (fun w hs => (c_impl_IsResponse (⟨0, 0, ([] : Str), 0, false, ([] : Str)⟩ : TResponse) _ ⟨(show WfI 0 from ⟨by omega, by omega⟩), (show WfI 0 from ⟨by omega, by omega⟩), (show WfS [] from Nat.zero_le _), (show WfI 0 from ⟨by omega, by omega⟩), trivial, (show WfS [] from Nat.zero_le _)⟩ (by first | exact Nat.zero_le _ | omega | (simp only [TResponse.size] at *; omega)) (by first | assumption | exact Sat.cellm hs (by assumption)))) (fun _ _ hs hb => hs.ext hb) ?_
          refine WQ.run (d := 82) Q0 Q0 ?_
          refine WQ.p Q0 (fun w hs => Yl.not Q0) ?_
          refine WQ.p Q0 (fun w hs => Yl.pickT Q0 Q0) ?_
          refine WQ.p Q0 (fun w hs => Yl.move Q0) ?_
          refine WQ.split (d := 87) Q0 (fun h10 => ?_) (fun h10 => ?_)
          ·
           replace h10 := not_eq_true h10
           refine WQ.run (d := 87) Q0 Q0 ?_
           refine WQ.callp Q0 (fun w => Yc.func Q0 fn48) (fun w hs => (c_impl_NotFound _)) (fun _ _ hs hb => hs.ext hb) ?_
           refine WQ.run (d := 87) Q0 Q0 ?_
           refine WQ.p Q0 (fun w hs => Yl.field fv45_0 Q0 Q0) ?_
           refine WQ.run (d := 87) Q0 Q0 ?_
           refine WQ.p Q0 (fun w hs => Yl.eqi Q0 Q0) ?_
           refine WQ.p Q0 (fun w hs => Yl.pickT Q0 Q0) ?_
           refine WQ.p Q0 (fun w hs => Yl.assign Q0) ?_
           refine WQ.next ?_
           clear hs; intro w hs
           refine WC.ret ?_
           refine fin1' rfl Q0 ?_
           refine RetP.mk hs ?_
           first
            | rfl
            | (clear hs; simp_all [digest_own, digest_next]; done)
            | (clear hs; simp_all [digest_own, digest_next, checkDigest]; done)
            | (clear hs; simp_all [TResponse.isv, inR]; done)
            | (clear hs; simp_all [notFound]; done)
          ·
           replace h10 := not_eq_false h10
           refine WQ.skip (d := 87) Q0 Q0 Q0 Q0 ?_
           refine WQ.skip (d := 87) Q0 Q0 Q0 Q0 ?_
           refine WQ.skip (d := 87) Q0 Q0 Q0 Q0 ?_
           refine WQ.p Q0 (fun w hs => Yl.pickF Q0 Q0) ?_
           refine WQ.p Q0 (fun w hs => Yl.assign Q0) ?_
           refine WQ.next ?_
           clear hs; intro w hs
           refine WC.ret ?_
           refine fin1' rfl Q0 ?_
           refine RetP.mk hs ?_
           first
            | rfl
            | (clear hs; simp_all [digest_own, digest_next]; done)
            | (clear hs; simp_all [digest_own, digest_next, checkDigest]; done)
            | (clear hs; simp_all [TResponse.isv, inR]; done)
            | (clear hs; simp_all [notFound]; done)
         ·
          replace h9 := of_decide_eq_false h9
          refine WQ.skip (d := 82) Q0 Q0 Q0 Q0 ?_
          refine WQ.skip (d := 82) Q0 Q0 Q0 Q0 ?_
          refine WQ.skip (d := 82) Q0 Q0 Q0 Q0 ?_
          refine WQ.p Q0 (fun w hs => Yl.pickF Q0 Q0) ?_
          refine WQ.p Q0 (fun w hs => Yl.move Q0) ?_
          refine WQ.skip (d := 87) Q0 Q0 Q0 Q0 ?_
          refine WQ.skip (d := 87) Q0 Q0 Q0 Q0 ?_
          refine WQ.skip (d := 87) Q0 Q0 Q0 Q0 ?_
          refine WQ.p Q0 (fun w hs => Yl.pickF Q0 Q0) ?_
          refine WQ.p Q0 (fun w hs => Yl.assign Q0) ?_
          refine WQ.next ?_
          clear hs; intro w hs
          refine WC.ret ?_
          refine fin1' rfl Q0 ?_
          refine RetP.mk hs ?_
          first
           | rfl
           | (clear hs; simp_all [digest_own, digest_next]; done)
           | (clear hs; simp_all [digest_own, digest_next, checkDigest]; done)
           | (clear hs; simp_all [TResponse.isv, inR]; done)
           | (clear hs; simp_all [notFound]; done)
        ·
         replace h8 := beq_false h8
         refine WQ.skip (d := 73) Q0 Q0 Q0 Q0 ?_
         refine WQ.skip (d := 73) Q0 Q0 Q0 Q0 ?_
         refine WQ.skip (d := 73) Q0 Q0 Q0 Q0 ?_
         refine WQ.skip (d := 73) Q0 Q0 Q0 Q0 ?_
         refine WQ.skip (d := 73) Q0 Q0 Q0 Q0 ?_
         refine WQ.skip (d := 73) Q0 Q0 Q0 Q0 ?_
         refine WQ.skip (d := 73) Q0 Q0 Q0 Q0 ?_
         refine WQ.p Q0 (fun w hs => Yl.pickF Q0 Q0) ?_
         refine WQ.p Q0 (fun w hs => Yl.move Q0) ?_
         refine WQ.skip (d := 82) Q0 Q0 Q0 Q0 ?_
         refine WQ.skip (d := 82) Q0 Q0 Q0 Q0 ?_
         refine WQ.skip (d := 82) Q0 Q0 Q0 Q0 ?_
         refine WQ.p Q0 (fun w hs => Yl.pickF Q0 Q0) ?_
         refine WQ.p Q0 (fun w hs => Yl.move Q0) ?_
         refine WQ.skip (d := 87) Q0 Q0 Q0 Q0 ?_
         refine WQ.skip (d := 87) Q0 Q0 Q0 Q0 ?_
         refine WQ.skip (d := 87) Q0 Q0 Q0 Q0 ?_
         refine WQ.p Q0 (fun w hs => Yl.pickF Q0 Q0) ?_
         refine WQ.p Q0 (fun w hs => Yl.assign Q0) ?_
         refine WQ.next ?_
         clear hs; intro w hs
         refine WC.ret ?_
         refine fin1' rfl Q0 ?_
         refine RetP.mk hs ?_
         first
          | rfl
          | (clear hs; simp_all [digest_own, digest_next]; done)
          | (clear hs; simp_all [digest_own, digest_next, checkDigest]; done)
          | (clear hs; simp_all [TResponse.isv, inR]; done)
          | (clear hs; simp_all [notFound]; done)
       ·
        replace h7 := beq_false h7
        refine WQ.skip (d := 64) Q0 Q0 Q0 Q0 ?_
        refine WQ.skip (d := 64) Q0 Q0 Q0 Q0 ?_
        refine WQ.skip (d := 64) Q0 Q0 Q0 Q0 ?_
        refine WQ.skip (d := 64) Q0 Q0 Q0 Q0 ?_
        refine WQ.skip (d := 64) Q0 Q0 Q0 Q0 ?_
        refine WQ.skip (d := 64) Q0 Q0 Q0 Q0 ?_
        refine WQ.skip (d := 64) Q0 Q0 Q0 Q0 ?_
        refine WQ.p Q0 (fun w hs => Yl.pickF Q0 Q0) ?_
        refine WQ.p Q0 (fun w hs => Yl.move Q0) ?_
        refine WQ.skip (d := 73) Q0 Q0 Q0 Q0 ?_
        refine WQ.skip (d := 73) Q0 Q0 Q0 Q0 ?_
        refine WQ.skip (d := 73) Q0 Q0 Q0 Q0 ?_
        refine WQ.skip (d := 73) Q0 Q0 Q0 Q0 ?_
        refine WQ.skip (d := 73) Q0 Q0 Q0 Q0 ?_
        refine WQ.skip (d := 73) Q0 Q0 Q0 Q0 ?_
        refine WQ.skip (d := 73) Q0 Q0 Q0 Q0 ?_
        refine WQ.p Q0 (fun w hs => Yl.pickF Q0 Q0) ?_
        refine WQ.p Q0 (fun w hs => Yl.move Q0) ?_
        refine WQ.skip (d := 82) Q0 Q0 Q0 Q0 ?_
        refine WQ.skip (d := 82) Q0 Q0 Q0 Q0 ?_
        refine WQ.skip (d := 82) Q0 Q0 Q0 Q0 ?_
        refine WQ.p Q0 (fun w hs => Yl.pickF Q0 Q0) ?_
        refine WQ.p Q0 (fun w hs => Yl.move Q0) ?_
        refine WQ.skip (d := 87) Q0 Q0 Q0 Q0 ?_
        refine WQ.skip (d := 87) Q0 Q0 Q0 Q0 ?_
        refine WQ.skip (d := 87) Q0 Q0 Q0 Q0 ?_
        refine WQ.p Q0 (fun w hs => Yl.pickF Q0 Q0) ?_
        refine WQ.p Q0 (fun w hs => Yl.assign Q0) ?_
        refine WQ.next ?_
        clear hs; intro w hs
        refine WC.ret ?_
        refine fin1' rfl Q0 ?_
        refine RetP.mk hs ?_
        first
         | rfl
         | (clear hs; simp_all [digest_own, digest_next]; done)
         | (clear hs; simp_all [digest_own, digest_next, checkDigest]; done)
         | (clear hs; simp_all [TResponse.isv, inR]; done)
         | (clear hs; simp_all [notFound]; done)
      ·
       replace h6 := of_decide_eq_false h6
       refine WQ.skip (d := 57) Q0 Q0 Q0 Q0 ?_
       refine WQ.skip (d := 57) Q0 Q0 Q0 Q0 ?_
       refine WQ.skip (d := 57) Q0 Q0 Q0 Q0 ?_
       refine WQ.skip (d := 57) Q0 Q0 Q0 Q0 ?_
       refine WQ.skip (d := 57) Q0 Q0 Q0 Q0 ?_
       refine WQ.p Q0 (fun w hs => Yl.pickF Q0 Q0) ?_
       refine WQ.p Q0 (fun w hs => Yl.move Q0) ?_
       refine WQ.skip (d := 64) Q0 Q0 Q0 Q0 ?_
       refine WQ.skip (d := 64) Q0 Q0 Q0 Q0 ?_
       refine WQ.skip (d := 64) Q0 Q0 Q0 Q0 ?_
       refine WQ.skip (d := 64) Q0 Q0 Q0 Q0 ?_
       refine WQ.skip (d := 64) Q0 Q0 Q0 Q0 ?_
       refine WQ.skip (d := 64) Q0 Q0 Q0 Q0 ?_
       refine WQ.skip (d := 64) Q0 Q0 Q0 Q0 ?_
       refine WQ.p Q0 (fun w hs => Yl.pickF Q0 Q0) ?_
       refine WQ.p Q0 (fun w hs => Yl.move Q0) ?_
       refine WQ.skip (d := 73) Q0 Q0 Q0 Q0 ?_
       refine WQ.skip (d := 73) Q0 Q0 Q0 Q0 ?_
       refine WQ.skip (d := 73) Q0 Q0 Q0 Q0 ?_
       refine WQ.skip (d := 73) Q0 Q0 Q0 Q0 ?_
       refine WQ.skip (d := 73) Q0 Q0 Q0 Q0 ?_
       refine WQ.skip (d := 73) Q0 Q0 Q0 Q0 ?_
       refine WQ.skip (d := 73) Q0 Q0 Q0 Q0 ?_
       refine WQ.p Q0 (fun w hs => Yl.pickF Q0 Q0) ?_
       refine WQ.p Q0 (fun w hs => Yl.move Q0) ?_
       refine WQ.skip (d := 82) Q0 Q0 Q0 Q0 ?_
       refine WQ.skip (d := 82) Q0 Q0 Q0 Q0 ?_
       refine WQ.skip (d := 82) Q0 Q0 Q0 Q0 ?_
       refine WQ.p Q0 (fun w hs => Yl.pickF Q0 Q0) ?_
       refine WQ.p Q0 (fun w hs => Yl.move Q0) ?_
       refine WQ.skip (d := 87) Q0 Q0 Q0 Q0 ?_
       refine WQ.skip (d := 87) Q0 Q0 Q0 Q0 ?_
       refine WQ.skip (d := 87) Q0 Q0 Q0 Q0 ?_
       refine WQ.p Q0 (fun w hs => Yl.pickF Q0 Q0) ?_
       refine WQ.p Q0 (fun w hs => Yl.assign Q0) ?_
       refine WQ.next ?_
       clear hs; intro w hs
       refine WC.ret ?_
       refine fin1' rfl Q0 ?_
       refine RetP.mk hs ?_
       first
        | rfl
        | (clear hs; simp_all [digest_own, digest_next]; done)
        | (clear hs; simp_all [digest_own, digest_next, checkDigest]; done)
        | (clear hs; simp_all [TResponse.isv, inR]; done)
        | (clear hs; simp_all [notFound]; done)
     ·
      replace h5 := not_eq_false h5
      refine WQ.skip (d := 51) Q0 Q0 Q0 Q0 ?_
      refine WQ.skip (d := 51) Q0 Q0 Q0 Q0 ?_
      refine WQ.skip (d := 51) Q0 Q0 Q0 Q0 ?_
      refine WQ.skip (d := 51) Q0 Q0 Q0 Q0 ?_
      refine WQ.p Q0 (fun w hs => Yl.pickF Q0 Q0) ?_
      refine WQ.p Q0 (fun w hs => Yl.move Q0) ?_
      refine WQ.skip (d := 57) Q0 Q0 Q0 Q0 ?_
      refine WQ.skip (d := 57) Q0 Q0 Q0 Q0 ?_
      refine WQ.skip (d := 57) Q0 Q0 Q0 Q0 ?_
      refine WQ.skip (d := 57) Q0 Q0 Q0 Q0 ?_
      refine WQ.skip (d := 57) Q0 Q0 Q0 Q0 ?_
      refine WQ.p Q0 (fun w hs => Yl.pickF Q0 Q0) ?_
      refine WQ.p Q0 (fun w hs => Yl.move Q0) ?_
      refine WQ.skip (d := 64) Q0 Q0 Q0 Q0 ?_
      refine WQ.skip (d := 64) Q0 Q0 Q0 Q0 ?_
      refine WQ.skip (d := 64) Q0 Q0 Q0 Q0 ?_
      refine WQ.skip (d := 64) Q0 Q0 Q0 Q0 ?_
      refine WQ.skip (d := 64) Q0 Q0 Q0 Q0 ?_
      refine WQ.skip (d := 64) Q0 Q0 Q0 Q0 ?_
      refine WQ.skip (d := 64) Q0 Q0 Q0 Q0 ?_
      refine WQ.p Q0 (fun w hs => Yl.pickF Q0 Q0) ?_
      refine WQ.p Q0 (fun w hs => Yl.move Q0) ?_
      refine WQ.skip (d := 73) Q0 Q0 Q0 Q0 ?_
      refine WQ.skip (d := 73) Q0 Q0 Q0 Q0 ?_
      refine WQ.skip (d := 73) Q0 Q0 Q0 Q0 ?_
      refine WQ.skip (d := 73) Q0 Q0 Q0 Q0 ?_
      refine WQ.skip (d := 73) Q0 Q0 Q0 Q0 ?_
      refine WQ.skip (d := 73) Q0 Q0 Q0 Q0 ?_
      refine WQ.skip (d := 73) Q0 Q0 Q0 Q0 ?_
      refine WQ.p Q0 (fun w hs => Yl.pickF Q0 Q0) ?_
      refine WQ.p Q0 (fun w hs => Yl.move Q0) ?_
      refine WQ.skip (d := 82) Q0 Q0 Q0 Q0 ?_
      refine WQ.skip (d := 82) Q0 Q0 Q0 Q0 ?_
      refine WQ.skip (d := 82) Q0 Q0 Q0 Q0 ?_
      refine WQ.p Q0 (fun w hs => Yl.pickF Q0 Q0) ?_
      refine WQ.p Q0 (fun w hs => Yl.move Q0) ?_
      refine WQ.skip (d := 87) Q0 Q0 Q0 Q0 ?_
      refine WQ.skip (d := 87) Q0 Q0 Q0 Q0 ?_
      refine WQ.skip (d := 87) Q0 Q0 Q0 Q0 ?_
      refine WQ.p Q0 (fun w hs => Yl.pickF Q0 Q0) ?_
      refine WQ.p Q0 (fun w hs => Yl.assign Q0) ?_
      refine WQ.next ?_
      clear hs; intro w hs
      refine WC.ret ?_
      refine fin1' rfl Q0 ?_
      refine RetP.mk hs ?_
      first
       | rfl
       | (clear hs; simp_all [digest_own, digest_next]; done)
       | (clear hs; simp_all [digest_own, digest_next, checkDigest]; done)
       | (clear hs; simp_all [TResponse.isv, inR]; done)
       | (clear hs; simp_all [notFound]; done)
    ·
     refine WQ.skip (d := 43) Q0 Q0 Q0 Q0 ?_
     refine WQ.skip (d := 43) Q0 Q0 Q0 Q0 ?_
     refine WQ.skip (d := 43) Q0 Q0 Q0 Q0 ?_
     refine WQ.skip (d := 43) Q0 Q0 Q0 Q0 ?_
     refine WQ.skip (d := 43) Q0 Q0 Q0 Q0 ?_
     refine WQ.skip (d := 43) Q0 Q0 Q0 Q0 ?_
     refine WQ.p Q0 (fun w hs => Yl.pickF Q0 Q0) ?_
     refine WQ.p Q0 (fun w hs => Yl.move Q0) ?_
     refine WQ.skip (d := 51) Q0 Q0 Q0 Q0 ?_
     refine WQ.skip (d := 51) Q0 Q0 Q0 Q0 ?_
     refine WQ.skip (d := 51) Q0 Q0 Q0 Q0 ?_
     refine WQ.skip (d := 51) Q0 Q0 Q0 Q0 ?_
     refine WQ.p Q0 (fun w hs => Yl.pickF Q0 Q0) ?_
     refine WQ.p Q0 (fun w hs => Yl.move Q0) ?_
     refine WQ.skip (d := 57) Q0 Q0 Q0 Q0 ?_
     refine WQ.skip (d := 57) Q0 Q0 Q0 Q0 ?_
     refine WQ.skip (d := 57) Q0 Q0 Q0 Q0 ?_
     refine WQ.skip (d := 57) Q0 Q0 Q0 Q0 ?_
     refine WQ.skip (d := 57) Q0 Q0 Q0 Q0 ?_
     refine WQ.p Q0 (fun w hs => Yl.pickF Q0 Q0) ?_
     refine WQ.p Q0 (fun w hs => Yl.move Q0) ?_
     refine WQ.skip (d := 64) Q0 Q0 Q0 Q0 ?_
     refine WQ.skip (d := 64) Q0 Q0 Q0 Q0 ?_
     refine WQ.skip (d := 64) Q0 Q0 Q0 Q0 ?_
     refine WQ.skip (d := 64) Q0 Q0 Q0 Q0 ?_
     refine WQ.skip (d := 64) Q0 Q0 Q0 Q0 ?_
     refine WQ.skip (d := 64) Q0 Q0 Q0 Q0 ?_
     refine WQ.skip (d := 64) Q0 Q0 Q0 Q0 ?_
     refine WQ.p Q0 (fun w hs => Yl.pickF Q0 Q0) ?_
     refine WQ.p Q0 (fun w hs => Yl.move Q0) ?_
     refine WQ.skip (d := 73) Q0 Q0 Q0 Q0 ?_
     refine WQ.skip (d := 73) Q0 Q0 Q0 Q0 ?_
     refine WQ.skip (d := 73) Q0 Q0 Q0 Q0 ?_
     refine WQ.skip (d := 73) Q0 Q0 Q0 Q0 ?_
     refine WQ.skip (d := 73) Q0 Q0 Q0 Q0 ?_
     refine WQ.skip (d := 73) Q0 Q0 Q0 Q0 ?_
     refine WQ.skip (d := 73) Q0 Q0 Q0 Q0 ?_
     refine WQ.p Q0 (fun w hs => Yl.pickF Q0 Q0) ?_
     refine WQ.p Q0 (fun w hs => Yl.move Q0) ?_
     refine WQ.skip (d := 82) Q0 Q0 Q0 Q0 ?_
     refine WQ.skip (d := 82) Q0 Q0 Q0 Q0 ?_
     refine WQ.skip (d := 82) Q0 Q0 Q0 Q0 ?_
     refine WQ.p Q0 (fun w hs => Yl.pickF Q0 Q0) ?_
     refine WQ.p Q0 (fun w hs => Yl.move Q0) ?_
     refine WQ.skip (d := 87) Q0 Q0 Q0 Q0 ?_
     refine WQ.skip (d := 87) Q0 Q0 Q0 Q0 ?_
     refine WQ.skip (d := 87) Q0 Q0 Q0 Q0 ?_
     refine WQ.p Q0 (fun w hs => Yl.pickF Q0 Q0) ?_
     refine WQ.p Q0 (fun w hs => Yl.assign Q0) ?_
     refine WQ.next ?_
     clear hs; intro w hs
     refine WC.ret ?_
     refine fin1' rfl Q0 ?_
     refine RetP.mk hs ?_
     first
      | rfl
      | (clear hs; simp_all [digest_own, digest_next]; done)
      | (clear hs; simp_all [digest_own, digest_next, checkDigest]; done)
      | (clear hs; simp_all [TResponse.isv, inR]; done)
      | (clear hs; simp_all [notFound]; done)
   ·
    replace h3 := beq_false h3
    refine WQ.skip (d := 37) Q0 Q0 Q0 Q0 ?_
    refine WQ.skip (d := 37) Q0 Q0 Q0 Q0 ?_
    refine WQ.skip (d := 37) Q0 Q0 Q0 Q0 ?_
    refine WQ.skip (d := 37) Q0 Q0 Q0 Q0 ?_
    refine WQ.p Q0 (fun w hs => Yl.pickF Q0 Q0) ?_
    refine WQ.p Q0 (fun w hs => Yl.move Q0) ?_
    refine WQ.skip (d := 43) Q0 Q0 Q0 Q0 ?_
    refine WQ.skip (d := 43) Q0 Q0 Q0 Q0 ?_
    refine WQ.skip (d := 43) Q0 Q0 Q0 Q0 ?_
    refine WQ.skip (d := 43) Q0 Q0 Q0 Q0 ?_
    refine WQ.skip (d := 43) Q0 Q0 Q0 Q0 ?_
    refine WQ.skip (d := 43) Q0 Q0 Q0 Q0 ?_
    refine WQ.p Q0 (fun w hs => Yl.pickF Q0 Q0) ?_
    refine WQ.p Q0 (fun w hs => Yl.move Q0) ?_
    refine WQ.skip (d := 51) Q0 Q0 Q0 Q0 ?_
    refine WQ.skip (d := 51) Q0 Q0 Q0 Q0 ?_
    refine WQ.skip (d := 51) Q0 Q0 Q0 Q0 ?_
    refine WQ.skip (d := 51) Q0 Q0 Q0 Q0 ?_
    refine WQ.p Q0 (fun w hs => Yl.pickF Q0 Q0) ?_
    refine WQ.p Q0 (fun w hs => Yl.move Q0) ?_
    refine WQ.skip (d := 57) Q0 Q0 Q0 Q0 ?_
    refine WQ.skip (d := 57) Q0 Q0 Q0 Q0 ?_
    refine WQ.skip (d := 57) Q0 Q0 Q0 Q0 ?_
    refine WQ.skip (d := 57) Q0 Q0 Q0 Q0 ?_
    refine WQ.skip (d := 57) Q0 Q0 Q0 Q0 ?_
    refine WQ.p Q0 (fun w hs => Yl.pickF Q0 Q0) ?_
    refine WQ.p Q0 (fun w hs => Yl.move Q0) ?_
    refine WQ.skip (d := 64) Q0 Q0 Q0 Q0 ?_
    refine WQ.skip (d := 64) Q0 Q0 Q0 Q0 ?_
    refine WQ.skip (d := 64) Q0 Q0 Q0 Q0 ?_
    refine WQ.skip (d := 64) Q0 Q0 Q0 Q0 ?_
    refine WQ.skip (d := 64) Q0 Q0 Q0 Q0 ?_
    refine WQ.skip (d := 64) Q0 Q0 Q0 Q0 ?_
    refine WQ.skip (d := 64) Q0 Q0 Q0 Q0 ?_
    refine WQ.p Q0 (fun w hs => Yl.pickF Q0 Q0) ?_
    refine WQ.p Q0 (fun w hs => Yl.move Q0) ?_
    refine WQ.skip (d := 73) Q0 Q0 Q0 Q0 ?_
    refine WQ.skip (d := 73) Q0 Q0 Q0 Q0 ?_
    refine WQ.skip (d := 73) Q0 Q0 Q0 Q0 ?_
    refine WQ.skip (d := 73) Q0 Q0 Q0 Q0 ?_
    refine WQ.skip (d := 73) Q0 Q0 Q0 Q0 ?_
    refine WQ.skip (d := 73) Q0 Q0 Q0 Q0 ?_
    refine WQ.skip (d := 73) Q0 Q0 Q0 Q0 ?_
    refine WQ.p Q0 (fun w hs => Yl.pickF Q0 Q0) ?_
    refine WQ.p Q0 (fun w hs => Yl.move Q0) ?_
    refine WQ.skip (d := 82) Q0 Q0 Q0 Q0 ?_
    refine WQ.skip (d := 82) Q0 Q0 Q0 Q0 ?_
    refine WQ.skip (d := 82) Q0 Q0 Q0 Q0 ?_
    refine WQ.p Q0 (fun w hs => Yl.pickF Q0 Q0) ?_
    refine WQ.p Q0 (fun w hs => Yl.move Q0) ?_
    refine WQ.skip (d := 87) Q0 Q0 Q0 Q0 ?_
    refine WQ.skip (d := 87) Q0 Q0 Q0 Q0 ?_
    refine WQ.skip (d := 87) Q0 Q0 Q0 Q0 ?_
    refine WQ.p Q0 (fun w hs => Yl.pickF Q0 Q0) ?_
    refine WQ.p Q0 (fun w hs => Yl.assign Q0) ?_
    refine WQ.next ?_
    clear hs; intro w hs
    refine WC.ret ?_
    refine fin1' rfl Q0 ?_
    refine RetP.mk hs ?_
    first
     | rfl
     | (clear hs; simp_all [digest_own, digest_next]; done)
     | (clear hs; simp_all [digest_own, digest_next, checkDigest]; done)
     | (clear hs; simp_all [TResponse.isv, inR]; done)
     | (clear hs; simp_all [notFound]; done)
  ·
   replace h2 := of_decide_eq_false h2
   refine WQ.run (d := 30) Q0 Q0 ?_
   refine WQ.p Q0 (fun w hs => Yl.move Q0) ?_
   refine WQ.run (d := 30) Q0 Q0 ?_
   refine WQ.p Q0 (fun w hs => Yl.move Q0) ?_
   refine WQ.run (d := 30) Q0 Q0 ?_
   refine WQ.callp Q0 (fun w => Yc.func Q0 fn41) (fun w hs => (c_spec_FormatInt _ _ (by first | exact digestN_wf _ | exact digestN_wf1 _))) (fun _ _ hs hb => hs.ext hb) ?_
   refine WQ.run (d := 30) Q0 Q0 ?_
   refine WQ.p Q0 (fun w hs => Yl.eqs Q0 Q0) ?_
   refine WQ.p Q0 (fun w hs => Yl.pickF Q0 Q0) ?_
   refine WQ.p Q0 (fun w hs => Yl.eqb bool4 Q0 Q0) ?_
   refine WQ.p Q0 (fun w hs => Yl.move Q0) ?_
   refine WQ.split (d := 37) Q0 (fun h3 => ?_) (fun h3 => ?_)
   ·
    replace h3 := beq_true h3
    refine WQ.run (d := 37) Q0 Q0 ?_
    refine WQ.p Q0 (fun w hs => Yl.move Q0) ?_
    refine WQ.run (d := 37) Q0 Q0 ?_
    refine WQ.p Q0 (fun w hs => Yl.move Q0) ?_
    refine WQ.run (d := 37) Q0 Q0 ?_
    refine WQ.callp Q0 (fun w => Yc.func Q0 fn41) (fun w hs => (c_spec_FormatInt _ _ (by first | exact digestN_wf _ | exact digestN_wf1 _))) (fun _ _ hs hb => hs.ext hb) ?_
    refine WQ.run (d := 37) Q0 Q0 ?_
    refine WQ.callp Q0 (fun w => Yc.func Q0 fn40) (fun w hs => (c_impl_CheckDigest _ _ _ (Flat.any hokx1_s) Q7 (by first | assumption | exact Sat.tab hs (by assumption)))) (fun _ _ hs hb => hs.ext hb) ?_
    refine WQ.p Q0 (fun w hs => Yl.pickT Q0 Q0) ?_
    refine WQ.p Q0 (fun w hs => Yl.move Q0) ?_
    refine WQ.split (d := 43) Q0 (fun h4 => ?_) (fun h4 => ?_)
    ·
     refine WQ.run (d := 43) Q0 Q0 ?_
     refine WQ.p Q0 (fun w hs => Yl.move Q0) ?_
     refine WQ.run (d := 43) Q0 Q0 ?_
     refine WQ.p Q0 (fun w hs => Yl.move Q0) ?_
     refine WQ.run (d := 43) Q0 Q0 ?_
     refine WQ.p Q0 (fun w hs => Yl.add Q0 Q0 (by first | omega | (simp only [TResponse.size] at *; omega))) ?_
     refine WQ.run (d := 43) Q0 Q0 ?_
     refine WQ.callp Q0 (fun w => Yc.func Q0 fn41) (fun w hs => (c_spec_FormatInt _ _ (by first | exact digestN_wf _ | exact digestN_wf1 _))) (fun _ _ hs hb => hs.ext hb) ?_
     refine WQ.run (d := 43) Q0 Q0 ?_
     refine WQ.callp Q0 (fun w => Yc.func Q0 fn40) (fun w hs => (c_impl_CheckDigest _ _ _ (Flat.any hokx1_s) Q7 (by first | assumption | exact Sat.tab hs (by assumption)))) (fun _ _ hs hb => hs.ext hb) ?_
     refine WQ.run (d := 43) Q0 Q0 ?_
     refine WQ.p Q0 (fun w hs => Yl.not Q0) ?_
     refine WQ.p Q0 (fun w hs => Yl.pickT Q0 Q0) ?_
     refine WQ.p Q0 (fun w hs => Yl.move Q0) ?_
     refine WQ.split (d := 51) Q0 (fun h5 => ?_) (fun h5 => ?_)
     ·
      replace h5 := not_eq_true h5
      refine WQ.run (d := 51) Q0 Q0 ?_
      refine WQ.p Q0 (fun w hs => Yl.move Q0) ?_
      refine WQ.run (d := 51) Q0 Q0 ?_
      refine WQ.p Q0 (fun w hs => Yl.move Q0) ?_
      refine WQ.run (d := 51) Q0 Q0 ?_
      refine WQ.callp Q0 (fun w => Yc.func Q0 fn42) (fun w hs => (c_spec_DigestOf _ _ (Flat.any hokx1_s) Q7)) (fun _ _ hs hb => hs.ext hb) ?_
      refine WQ.run (d := 51) Q0 Q0 ?_
      refine WQ.p Q0 (fun w hs => Yl.eqi Q0 Q0) ?_
      refine WQ.p Q0 (fun w hs => Yl.pickT Q0 Q0) ?_
      refine WQ.p Q0 (fun w hs => Yl.move Q0) ?_
      refine WQ.split (d := 57) Q0 (fun h6 => ?_) (fun h6 => ?_)
      ·
       replace h6 := of_decide_eq_true h6
       refine WQ.run (d := 57) Q0 Q0 ?_
       refine WQ.p Q0 (fun w hs => Yl.loadAB agg45 Q0 hs Q1 Q0 Q0) ?_
       refine WQ.run (d := 57) Q0 Q0 ?_
       refine WQ.callp Q0 (fun w => Yc.func Q0 fn43) (fun w hs => (c_impl_IsResponse _ _ (Flat.any hokx2) (by first | exact Nat.zero_le _ | omega | (simp only [TResponse.size] at *; omega)) (by first | assumption | exact Sat.cellm hs (by assumption)))) (fun _ _ hs hb => hs.ext hb) ?_
       refine WQ.run (d := 57) Q0 Q0 ?_
       refine WQ.p Q0 (fun w hs => Yl.loadAB agg45 Q0 hs Q1 Q0 Q0) ?_
       refine WQ.run (d := 57) Q0 Q0 ?_
       refine WQ.callp Q0 (fun w => Yc.func Q0 fn44) (fun w hs => (c_spec_IsResponse _ _ (Flat.any hokx2) (by simp only [TResponse.size] at *; omega))) (fun _ _ hs hb => hs.ext hb) ?_
       refine WQ.run (d := 57) Q0 Q0 ?_
       refine WQ.p Q0 (fun w hs => Yl.eqb bool4 Q0 Q0) ?_
       refine WQ.p Q0 (fun w hs => Yl.pickT Q0 Q0) ?_
       refine WQ.p Q0 (fun w hs => Yl.move Q0) ?_
       refine WQ.split (d := 64) Q0 (fun h7 => ?_) (fun h7 => ?_)
       ·
        replace h7 := beq_true h7
        refine WQ.run (d := 64) Q0 Q0 ?_
        refine WQ.p Q0 (fun w hs => Yl.loadAB agg45 Q0 hs Q1 Q0 Q0) ?_
        refine WQ.run (d := 64) Q0 Q0 ?_
        refine WQ.p Q0 (fun w hs => Yl.move Q0) ?_
        refine WQ.run (d := 64) Q0 Q0 ?_
        refine WQ.callp Q0 (fun w => Yc.func Q0 fn45) (fun w hs => (c_impl_FitsKind _ _ _)) (fun _ _ hs hb => hs.ext hb) ?_
        refine WQ.run (d := 64) Q0 Q0 ?_
        refine WQ.p Q0 (fun w hs => Yl.loadAB agg45 Q0 hs Q1 Q0 Q0) ?_
        refine WQ.run (d := 64) Q0 Q0 ?_
        refine WQ.p Q0 (fun w hs => Yl.move Q0) ?_
        refine WQ.run (d := 64) Q0 Q0 ?_
        refine WQ.callp Q0 (fun w => Yc.func Q0 fn46) (fun w hs => (c_spec_FitsKind _ _ _)) (fun _ _ hs hb => hs.ext hb) ?_
        refine WQ.run (d := 64) Q0 Q0 ?_
        refine WQ.p Q0 (fun w hs => Yl.eqb bool4 Q0 Q0) ?_
        refine WQ.p Q0 (fun w hs => Yl.pickT Q0 Q0) ?_
        refine WQ.p Q0 (fun w hs => Yl.move Q0) ?_
        refine WQ.split (d := 73) Q0 (fun h8 => ?_) (fun h8 => ?_)
        ·
         replace h8 := beq_true h8
         refine WQ.run (d := 73) Q0 Q0 ?_
         refine WQ.p Q0 (fun w hs => Yl.loadAB agg45 Q0 hs Q1 Q0 Q0) ?_
         refine WQ.run (d := 73) Q0 Q0 ?_
         refine WQ.callp Q0 (fun w => Yc.func Q0 fn47) (fun w hs => (c_impl_SizeResponse _ _ (by simp only [TResponse.size] at *; omega))) (fun _ _ hs hb => hs.ext hb) ?_
         refine WQ.run (d := 73) Q0 Q0 ?_
         refine WQ.p Q0 (fun w hs => Yl.fieldAddr fa45_2 Q0) ?_
         refine WQ.run (d := 73) Q0 Q0 ?_
         refine WQ.p Q0 (fun w hs => Yl.loadB sca9 Q0 hs Q1 Q0) ?_
         refine WQ.run (d := 73) Q0 Q0 ?_
         refine WQ.p Q0 (fun w hs => Yl.len_str str9 Q0) ?_
         refine WQ.run (d := 73) Q0 Q0 ?_
         refine WQ.p Q0 (fun w hs => Yl.add Q0 Q0 (by first | omega | (simp only [TResponse.size] at *; omega))) ?_
         refine WQ.run (d := 73) Q0 Q0 ?_
         refine WQ.p Q0 (fun w hs => Yl.eqi Q0 Q0) ?_
         refine WQ.p Q0 (fun w hs => Yl.pickT Q0 Q0) ?_
         refine WQ.p Q0 (fun w hs => Yl.move Q0) ?_
         refine WQ.split (d := 82) Q0 (fun h9 => ?_) (fun h9 => ?_)
         ·
          replace h9 := of_decide_eq_true h9
          refine WQ.run (d := 82) Q0 Q0 ?_
          refine WQ.p Q0 (fun w hs => Yl.build bt45 Q0 Q4) ?_
          refine WQ.run (d := 82) Q0 Q0 ?_
          refine WQ.callp Q0 (fun w => Yc.func Q0 fn43) (fun w hs => (c_impl_IsResponse (⟨0, 0, ([] : Str), 0, false, ([] : Str)⟩ : TResponse) _ ⟨(show WfI 0 from ⟨by omega, by omega⟩), (show WfI 0 from ⟨by omega, by omega⟩), (show WfS [] from Nat.zero_le _), (show WfI 0 from ⟨by omega, by omega⟩), trivial, (show WfS [] from Nat.zero_le _)⟩ (by first | exact Nat.zero_le _ | omega | (simp only [TResponse.size] at *; omega)) (by first | assumption | exact Sat.cellm hs (by assumption)))) (fun _ _ hs hb => hs.ext hb) ?_
          refine WQ.run (d := 82) Q0 Q0 ?_
          refine WQ.p Q0 (fun w hs => Yl.not Q0) ?_
          refine WQ.p Q0 (fun w hs => Yl.pickT Q0 Q0) ?_
          refine WQ.p Q0 (fun w hs => Yl.move Q0) ?_
          refine WQ.split (d := 87) Q0 (fun h10 => ?_) (fun h10 => ?_)
          ·
           replace h10 := not_eq_true h10
           refine WQ.run (d := 87) Q0 Q0 ?_
           refine WQ.callp Q0 (fun w => Yc.func Q0 fn48) (fun w hs => (c_impl_NotFound _)) (fun _ _ hs hb => hs.ext hb) ?_
           refine WQ.run (d := 87) Q0 Q0 ?_
           refine WQ.p Q0 (fun w hs => Yl.field fv45_0 Q0 Q0) ?_
           refine WQ.run (d := 87) Q0 Q0 ?_
           refine WQ.p Q0 (fun w hs => Yl.eqi Q0 Q0) ?_
           refine WQ.p Q0 (fun w hs => Yl.pickT Q0 Q0) ?_
           refine WQ.p Q0 (fun w hs => Yl.assign Q0) ?_
           refine WQ.next ?_
           clear hs; intro w hs
           refine WC.ret ?_
           refine fin1' rfl Q0 ?_
           refine RetP.mk hs ?_
           first
            | rfl
            | (clear hs; simp_all [digest_own, digest_next]; done)
            | (clear hs; simp_all [digest_own, digest_next, checkDigest]; done)
            | (clear hs; simp_all [TResponse.isv, inR]; done)
            | (clear hs; simp_all [notFound]; done)
          ·
           replace h10 := not_eq_false h10
           refine WQ.skip (d := 87) Q0 Q0 Q0 Q0 ?_
           refine WQ.skip (d := 87) Q0 Q0 Q0 Q0 ?_
           refine WQ.skip (d := 87) Q0 Q0 Q0 Q0 ?_
           refine WQ.p Q0 (fun w hs => Yl.pickF Q0 Q0) ?_
           refine WQ.p Q0 (fun w hs => Yl.assign Q0) ?_
           refine WQ.next ?_
           clear hs; intro w hs
           refine WC.ret ?_
           refine fin1' rfl Q0 ?_
           refine RetP.mk hs ?_
           first
            | rfl
            | (clear hs; simp_all [digest_own, digest_next]; done)
            | (clear hs; simp_all [digest_own, digest_next, checkDigest]; done)
            | (clear hs; simp_all [TResponse.isv, inR]; done)
            | (clear hs; simp_all [notFound]; done)
         ·
          replace h9 := of_decide_eq_false h9
          refine WQ.skip (d := 82) Q0 Q0 Q0 Q0 ?_
          refine WQ.skip (d := 82) Q0 Q0 Q0 Q0 ?_
          refine WQ.skip (d := 82) Q0 Q0 Q0 Q0 ?_
          refine WQ.p Q0 (fun w hs => Yl.pickF Q0 Q0) ?_
          refine WQ.p Q0 (fun w hs => Yl.move Q0) ?_
          refine WQ.skip (d := 87) Q0 Q0 Q0 Q0 ?_
          refine WQ.skip (d := 87) Q0 Q0 Q0 Q0 ?_
          refine WQ.skip (d := 87) Q0 Q0 Q0 Q0 ?_
          refine WQ.p Q0 (fun w hs => Yl.pickF Q0 Q0) ?_
          refine WQ.p Q0 (fun w hs => Yl.assign Q0) ?_
          refine WQ.next ?_
          clear hs; intro w hs
          refine WC.ret ?_
          refine fin1' rfl Q0 ?_
          refine RetP.mk hs ?_
          first
           | rfl
           | (clear hs; simp_all [digest_own, digest_next]; done)
           | (clear hs; simp_all [digest_own, digest_next, checkDigest]; done)
           | (clear hs; simp_all [TResponse.isv, inR]; done)
           | (clear hs; simp_all [notFound]; done)
        ·
         replace h8 := beq_false h8
         refine WQ.skip (d := 73) Q0 Q0 Q0 Q0 ?_
         refine WQ.skip (d := 73) Q0 Q0 Q0 Q0 ?_
         refine WQ.skip (d := 73) Q0 Q0 Q0 Q0 ?_
         refine WQ.skip (d := 73) Q0 Q0 Q0 Q0 ?_
         refine WQ.skip (d := 73) Q0 Q0 Q0 Q0 ?_
         refine WQ.skip (d := 73) Q0 Q0 Q0 Q0 ?_
         refine WQ.skip (d := 73) Q0 Q0 Q0 Q0 ?_
         refine WQ.p Q0 (fun w hs => Yl.pickF Q0 Q0) ?_
         refine WQ.p Q0 (fun w hs => Yl.move Q0) ?_
         refine WQ.skip (d := 82) Q0 Q0 Q0 Q0 ?_
         refine WQ.skip (d := 82) Q0 Q0 Q0 Q0 ?_
         refine WQ.skip (d := 82) Q0 Q0 Q0 Q0 ?_
         refine WQ.p Q0 (fun w hs => Yl.pickF Q0 Q0) ?_
         refine WQ.p Q0 (fun w hs => Yl.move Q0) ?_
         refine WQ.skip (d := 87) Q0 Q0 Q0 Q0 ?_
         refine WQ.skip (d := 87) Q0 Q0 Q0 Q0 ?_
         refine WQ.skip (d := 87) Q0 Q0 Q0 Q0 ?_
         refine WQ.p Q0 (fun w hs => Yl.pickF Q0 Q0) ?_
         refine WQ.p Q0 (fun w hs => Yl.assign Q0) ?_
         refine WQ.next ?_
         clear hs; intro w hs
         refine WC.ret ?_
         refine fin1' rfl Q0 ?_
         refine RetP.mk hs ?_
         first
          | rfl
          | (clear hs; simp_all [digest_own, digest_next]; done)
          | (clear hs; simp_all [digest_own, digest_next, checkDigest]; done)
          | (clear hs; simp_all [TResponse.isv, inR]; done)
          | (clear hs; simp_all [notFound]; done)
       ·
        replace h7 := beq_false h7
        refine WQ.skip (d := 64) Q0 Q0 Q0 Q0 ?_
        refine WQ.skip (d := 64) Q0 Q0 Q0 Q0 ?_
        refine WQ.skip (d := 64) Q0 Q0 Q0 Q0 ?_
        refine WQ.skip (d := 64) Q0 Q0 Q0 Q0 ?_
        refine WQ.skip (d := 64) Q0 Q0 Q0 Q0 ?_
        refine WQ.skip (d := 64) Q0 Q0 Q0 Q0 ?_
        refine WQ.skip (d := 64) Q0 Q0 Q0 Q0 ?_
        refine WQ.p Q0 (fun w hs => Yl.pickF Q0 Q0) ?_
        refine WQ.p Q0 (fun w hs => Yl.move Q0) ?_
        refine WQ.skip (d := 73) Q0 Q0 Q0 Q0 ?_
        refine WQ.skip (d := 73) Q0 Q0 Q0 Q0 ?_
        refine WQ.skip (d := 73) Q0 Q0 Q0 Q0 ?_
        refine WQ.skip (d := 73) Q0 Q0 Q0 Q0 ?_
        refine WQ.skip (d := 73) Q0 Q0 Q0 Q0 ?_
        refine WQ.skip (d := 73) Q0 Q0 Q0 Q0 ?_
        refine WQ.skip (d := 73) Q0 Q0 Q0 Q0 ?_
        refine WQ.p Q0 (fun w hs => Yl.pickF Q0 Q0) ?_
        refine WQ.p Q0 (fun w hs => Yl.move Q0) ?_
        refine WQ.skip (d := 82) Q0 Q0 Q0 Q0 ?_
        refine WQ.skip (d := 82) Q0 Q0 Q0 Q0 ?_
        refine WQ.skip (d := 82) Q0 Q0 Q0 Q0 ?_
        refine WQ.p Q0 (fun w hs => Yl.pickF Q0 Q0) ?_
        refine WQ.p Q0 (fun w hs => Yl.move Q0) ?_
        refine WQ.skip (d := 87) Q0 Q0 Q0 Q0 ?_
        refine WQ.skip (d := 87) Q0 Q0 Q0 Q0 ?_
        refine WQ.skip (d := 87) Q0 Q0 Q0 Q0 ?_
        refine WQ.p Q0 (fun w hs => Yl.pickF Q0 Q0) ?_
        refine WQ.p Q0 (fun w hs => Yl.assign Q0) ?_
        refine WQ.next ?_
        clear hs; intro w hs
        refine WC.ret ?_
        refine fin1' rfl Q0 ?_
        refine RetP.mk hs ?_
        first
         | rfl
         | (clear hs; simp_all [digest_own, digest_next]; done)
         | (clear hs; simp_all [digest_own, digest_next, checkDigest]; done)
         | (clear hs; simp_all [TResponse.isv, inR]; done)
         | (clear hs; simp_all [notFound]; done)
      ·
       replace h6 := of_decide_eq_false h6
       refine WQ.skip (d := 57) Q0 Q0 Q0 Q0 ?_
       refine WQ.skip (d := 57) Q0 Q0 Q0 Q0 ?_
       refine WQ.skip (d := 57) Q0 Q0 Q0 Q0 ?_
       refine WQ.skip (d := 57) Q0 Q0 Q0 Q0 ?_
       refine WQ.skip (d := 57) Q0 Q0 Q0 Q0 ?_
       refine WQ.p Q0 (fun w hs => Yl.pickF Q0 Q0) ?_
       refine WQ.p Q0 (fun w hs => Yl.move Q0) ?_
       refine WQ.skip (d := 64) Q0 Q0 Q0 Q0 ?_
       refine WQ.skip (d := 64) Q0 Q0 Q0 Q0 ?_
       refine WQ.skip (d := 64) Q0 Q0 Q0 Q0 ?_
       refine WQ.skip (d := 64) Q0 Q0 Q0 Q0 ?_
       refine WQ.skip (d := 64) Q0 Q0 Q0 Q0 ?_
       refine WQ.skip (d := 64) Q0 Q0 Q0 Q0 ?_
       refine WQ.skip (d := 64) Q0 Q0 Q0 Q0 ?_
       refine WQ.p Q0 (fun w hs => Yl.pickF Q0 Q0) ?_
       refine WQ.p Q0 (fun w hs => Yl.move Q0) ?_
       refine WQ.skip (d := 73) Q0 Q0 Q0 Q0 ?_
       refine WQ.skip (d := 73) Q0 Q0 Q0 Q0 ?_
       refine WQ.skip (d := 73) Q0 Q0 Q0 Q0 ?_
       refine WQ.skip (d := 73) Q0 Q0 Q0 Q0 ?_
       refine WQ.skip (d := 73) Q0 Q0 Q0 Q0 ?_
       refine WQ.skip (d := 73) Q0 Q0 Q0 Q0 ?_
       refine WQ.skip (d := 73) Q0 Q0 Q0 Q0 ?_
       refine WQ.p Q0 (fun w hs => Yl.pickF Q0 Q0) ?_
       refine WQ.p Q0 (fun w hs => Yl.move Q0) ?_
       refine WQ.skip (d := 82) Q0 Q0 Q0 Q0 ?_
       refine WQ.skip (d := 82) Q0 Q0 Q0 Q0 ?_
       refine WQ.skip (d := 82) Q0 Q0 Q0 Q0 ?_
       refine WQ.p Q0 (fun w hs => Yl.pickF Q0 Q0) ?_
       refine WQ.p Q0 (fun w hs => Yl.move Q0) ?_
       refine WQ.skip (d := 87) Q0 Q0 Q0 Q0 ?_
       refine WQ.skip (d := 87) Q0 Q0 Q0 Q0 ?_
       refine WQ.skip (d := 87) Q0 Q0 Q0 Q0 ?_
       refine WQ.p Q0 (fun w hs => Yl.pickF Q0 Q0) ?_
       refine WQ.p Q0 (fun w hs => Yl.assign Q0) ?_
       refine WQ.next ?_
       clear hs; intro w hs
       refine WC.ret ?_
       refine fin1' rfl Q0 ?_
       refine RetP.mk hs ?_
       first
        | rfl
        | (clear hs; simp_all [digest_own, digest_next]; done)
        | (clear hs; simp_all [digest_own, digest_next, checkDigest]; done)
        | (clear hs; simp_all [TResponse.isv, inR]; done)
        | (clear hs; simp_all [notFound]; done)
     ·
      replace h5 := not_eq_false h5
      refine WQ.skip (d := 51) Q0 Q0 Q0 Q0 ?_
      refine WQ.skip (d := 51) Q0 Q0 Q0 Q0 ?_
      refine WQ.skip (d := 51) Q0 Q0 Q0 Q0 ?_
      refine WQ.skip (d := 51) Q0 Q0 Q0 Q0 ?_
      refine WQ.p Q0 (fun w hs => Yl.pickF Q0 Q0) ?_
      refine WQ.p Q0 (fun w hs => Yl.move Q0) ?_
      refine WQ.skip (d := 57) Q0 Q0 Q0 Q0 ?_
      refine WQ.skip (d := 57) Q0 Q0 Q0 Q0 ?_
      refine WQ.skip (d := 57) Q0 Q0 Q0 Q0 ?_
      refine WQ.skip (d := 57) Q0 Q0 Q0 Q0 ?_
      refine WQ.skip (d := 57) Q0 Q0 Q0 Q0 ?_
      refine WQ.p Q0 (fun w hs => Yl.pickF Q0 Q0) ?_
      refine WQ.p Q0 (fun w hs => Yl.move Q0) ?_
      refine WQ.skip (d := 64) Q0 Q0 Q0 Q0 ?_
      refine WQ.skip (d := 64) Q0 Q0 Q0 Q0 ?_
      refine WQ.skip (d := 64) Q0 Q0 Q0 Q0 ?_
      refine WQ.skip (d := 64) Q0 Q0 Q0 Q0 ?_
      refine WQ.skip (d := 64) Q0 Q0 Q0 Q0 ?_
      refine WQ.skip (d := 64) Q0 Q0 Q0 Q0 ?_
      refine WQ.skip (d := 64) Q0 Q0 Q0 Q0 ?_
      refine WQ.p Q0 (fun w hs => Yl.pickF Q0 Q0) ?_
      refine WQ.p Q0 (fun w hs => Yl.move Q0) ?_
      refine WQ.skip (d := 73) Q0 Q0 Q0 Q0 ?_
      refine WQ.skip (d := 73) Q0 Q0 Q0 Q0 ?_
      refine WQ.skip (d := 73) Q0 Q0 Q0 Q0 ?_
      refine WQ.skip (d := 73) Q0 Q0 Q0 Q0 ?_
      refine WQ.skip (d := 73) Q0 Q0 Q0 Q0 ?_
      refine WQ.skip (d := 73) Q0 Q0 Q0 Q0 ?_
      refine WQ.skip (d := 73) Q0 Q0 Q0 Q0 ?_
      refine WQ.p Q0 (fun w hs => Yl.pickF Q0 Q0) ?_
      refine WQ.p Q0 (fun w hs => Yl.move Q0) ?_
      refine WQ.skip (d := 82) Q0 Q0 Q0 Q0 ?_
      refine WQ.skip (d := 82) Q0 Q0 Q0 Q0 ?_
      refine WQ.skip (d := 82) Q0 Q0 Q0 Q0 ?_
      refine WQ.p Q0 (fun w hs => Yl.pickF Q0 Q0) ?_
      refine WQ.p Q0 (fun w hs => Yl.move Q0) ?_
      refine WQ.skip (d := 87) Q0 Q0 Q0 Q0 ?_
      refine WQ.skip (d := 87) Q0 Q0 Q0 Q0 ?_
      refine WQ.skip (d := 87) Q0 Q0 Q0 Q0 ?_
      refine WQ.p Q0 (fun w hs => Yl.pickF Q0 Q0) ?_
      refine WQ.p Q0 (fun w hs => Yl.assign Q0) ?_
      refine WQ.next ?_
      clear hs; intro w hs
      refine WC.ret ?_
      refine fin1' rfl Q0 ?_
      refine RetP.mk hs ?_
      first
       | rfl
       | (clear hs; simp_all [digest_own, digest_next]; done)
       | (clear hs; simp_all [digest_own, digest_next, checkDigest]; done)
       | (clear hs; simp_all [TResponse.isv, inR]; done)
       | (clear hs; simp_all [notFound]; done)
    ·
     refine WQ.skip (d := 43) Q0 Q0 Q0 Q0 ?_
     refine WQ.skip (d := 43) Q0 Q0 Q0 Q0 ?_
     refine WQ.skip (d := 43) Q0 Q0 Q0 Q0 ?_
     refine WQ.skip (d := 43) Q0 Q0 Q0 Q0 ?_
     refine WQ.skip (d := 43) Q0 Q0 Q0 Q0 ?_
     refine WQ.skip (d := 43) Q0 Q0 Q0 Q0 ?_
     refine WQ.p Q0 (fun w hs => Yl.pickF Q0 Q0) ?_
     refine WQ.p Q0 (fun w hs => Yl.move Q0) ?_
     refine WQ.skip (d := 51) Q0 Q0 Q0 Q0 ?_
     refine WQ.skip (d := 51) Q0 Q0 Q0 Q0 ?_
     refine WQ.skip (d := 51) Q0 Q0 Q0 Q0 ?_
     refine WQ.skip (d := 51) Q0 Q0 Q0 Q0 ?_
     refine WQ.p Q0 (fun w hs => Yl.pickF Q0 Q0) ?_
     refine WQ.p Q0 (fun w hs => Yl.move Q0) ?_
     refine WQ.skip (d := 57) Q0 Q0 Q0 Q0 ?_
     refine WQ.skip (d := 57) Q0 Q0 Q0 Q0 ?_
     refine WQ.skip (d := 57) Q0 Q0 Q0 Q0 ?_
     refine WQ.skip (d := 57) Q0 Q0 Q0 Q0 ?_
     refine WQ.skip (d := 57) Q0 Q0 Q0 Q0 ?_
     refine WQ.p Q0 (fun w hs => Yl.pickF Q0 Q0) ?_
     refine WQ.p Q0 (fun w hs => Yl.move Q0) ?_
     refine WQ.skip (d := 64) Q0 Q0 Q0 Q0 ?_
     refine WQ.skip (d := 64) Q0 Q0 Q0 Q0 ?_
     refine WQ.skip (d := 64) Q0 Q0 Q0 Q0 ?_
     refine WQ.skip (d := 64) Q0 Q0 Q0 Q0 ?_
     refine WQ.skip (d := 64) Q0 Q0 Q0 Q0 ?_
     refine WQ.skip (d := 64) Q0 Q0 Q0 Q0 ?_
     refine WQ.skip (d := 64) Q0 Q0 Q0 Q0 ?_
     refine WQ.p Q0 (fun w hs => Yl.pickF Q0 Q0) ?_
     refine WQ.p Q0 (fun w hs => Yl.move Q0) ?_
     refine WQ.skip (d := 73) Q0 Q0 Q0 Q0 ?_
     refine WQ.skip (d := 73) Q0 Q0 Q0 Q0 ?_
     refine WQ.skip (d := 73) Q0 Q0 Q0 Q0 ?_
     refine WQ.skip (d := 73) Q0 Q0 Q0 Q0 ?_
     refine WQ.skip (d := 73) Q0 Q0 Q0 Q0 ?_
     refine WQ.skip (d := 73) Q0 Q0 Q0 Q0 ?_
     refine WQ.skip (d := 73) Q0 Q0 Q0 Q0 ?_
     refine WQ.p Q0 (fun w hs => Yl.pickF Q0 Q0) ?_
     refine WQ.p Q0 (fun w hs => Yl.move Q0) ?_
     refine WQ.skip (d := 82) Q0 Q0 Q0 Q0 ?_
     refine WQ.skip (d := 82) Q0 Q0 Q0 Q0 ?_
     refine WQ.skip (d := 82) Q0 Q0 Q0 Q0 ?_
     refine WQ.p Q0 (fun w hs => Yl.pickF Q0 Q0) ?_
     refine WQ.p Q0 (fun w hs => Yl.move Q0) ?_
     refine WQ.skip (d := 87) Q0 Q0 Q0 Q0 ?_
     refine WQ.skip (d := 87) Q0 Q0 Q0 Q0 ?_
     refine WQ.skip (d := 87) Q0 Q0 Q0 Q0 ?_
     refine WQ.p Q0 (fun w hs => Yl.pickF Q0 Q0) ?_
     refine WQ.p Q0 (fun w hs => Yl.assign Q0) ?_
     refine WQ.next ?_
     clear hs; intro w hs
     refine WC.ret ?_
     refine fin1' rfl Q0 ?_
     refine RetP.mk hs ?_
     first
      | rfl
      | (clear hs; simp_all [digest_own, digest_next]; done)
      | (clear hs; simp_all [digest_own, digest_next, checkDigest]; done)
      | (clear hs; simp_all [TResponse.isv, inR]; done)
      | (clear hs; simp_all [notFound]; done)
   ·
    replace h3 := beq_false h3
    refine WQ.skip (d := 37) Q0 Q0 Q0 Q0 ?_
    refine WQ.skip (d := 37) Q0 Q0 Q0 Q0 ?_
    refine WQ.skip (d := 37) Q0 Q0 Q0 Q0 ?_
    refine WQ.skip (d := 37) Q0 Q0 Q0 Q0 ?_
    refine WQ.p Q0 (fun w hs => Yl.pickF Q0 Q0) ?_
    refine WQ.p Q0 (fun w hs => Yl.move Q0) ?_
    refine WQ.skip (d := 43) Q0 Q0 Q0 Q0 ?_
    refine WQ.skip (d := 43) Q0 Q0 Q0 Q0 ?_
    refine WQ.skip (d := 43) Q0 Q0 Q0 Q0 ?_
    refine WQ.skip (d := 43) Q0 Q0 Q0 Q0 ?_
    refine WQ.skip (d := 43) Q0 Q0 Q0 Q0 ?_
    refine WQ.skip (d := 43) Q0 Q0 Q0 Q0 ?_
    refine WQ.p Q0 (fun w hs => Yl.pickF Q0 Q0) ?_
    refine WQ.p Q0 (fun w hs => Yl.move Q0) ?_
    refine WQ.skip (d := 51) Q0 Q0 Q0 Q0 ?_
    refine WQ.skip (d := 51) Q0 Q0 Q0 Q0 ?_
    refine WQ.skip (d := 51) Q0 Q0 Q0 Q0 ?_
    refine WQ.skip (d := 51) Q0 Q0 Q0 Q0 ?_
    refine WQ.p Q0 (fun w hs => Yl.pickF Q0 Q0) ?_
    refine WQ.p Q0 (fun w hs => Yl.move Q0) ?_
    refine WQ.skip (d := 57) Q0 Q0 Q0 Q0 ?_
    refine WQ.skip (d := 57) Q0 Q0 Q0 Q0 ?_
    refine WQ.skip (d := 57) Q0 Q0 Q0 Q0 ?_
    refine WQ.skip (d := 57) Q0 Q0 Q0 Q0 ?_
    refine WQ.skip (d := 57) Q0 Q0 Q0 Q0 ?_
    refine WQ.p Q0 (fun w hs => Yl.pickF Q0 Q0) ?_
    refine WQ.p Q0 (fun w hs => Yl.move Q0) ?_
    refine WQ.skip (d := 64) Q0 Q0 Q0 Q0 ?_
    refine WQ.skip (d := 64) Q0 Q0 Q0 Q0 ?_
    refine WQ.skip (d := 64) Q0 Q0 Q0 Q0 ?_
    refine WQ.skip (d := 64) Q0 Q0 Q0 Q0 ?_
    refine WQ.skip (d := 64) Q0 Q0 Q0 Q0 ?_
    refine WQ.skip (d := 64) Q0 Q0 Q0 Q0 ?_
    refine WQ.skip (d := 64) Q0 Q0 Q0 Q0 ?_
    refine WQ.p Q0 (fun w hs => Yl.pickF Q0 Q0) ?_
    refine WQ.p Q0 (fun w hs => Yl.move Q0) ?_
    refine WQ.skip (d := 73) Q0 Q0 Q0 Q0 ?_
    refine WQ.skip (d := 73) Q0 Q0 Q0 Q0 ?_
    refine WQ.skip (d := 73) Q0 Q0 Q0 Q0 ?_
    refine WQ.skip (d := 73) Q0 Q0 Q0 Q0 ?_
    refine WQ.skip (d := 73) Q0 Q0 Q0 Q0 ?_
    refine WQ.skip (d := 73) Q0 Q0 Q0 Q0 ?_
    refine WQ.skip (d := 73) Q0 Q0 Q0 Q0 ?_
    refine WQ.p Q0 (fun w hs => Yl.pickF Q0 Q0) ?_
    refine WQ.p Q0 (fun w hs => Yl.move Q0) ?_
    refine WQ.skip (d := 82) Q0 Q0 Q0 Q0 ?_
    refine WQ.skip (d := 82) Q0 Q0 Q0 Q0 ?_
    refine WQ.skip (d := 82) Q0 Q0 Q0 Q0 ?_
    refine WQ.p Q0 (fun w hs => Yl.pickF Q0 Q0) ?_
    refine WQ.p Q0 (fun w hs => Yl.move Q0) ?_
    refine WQ.skip (d := 87) Q0 Q0 Q0 Q0 ?_
    refine WQ.skip (d := 87) Q0 Q0 Q0 Q0 ?_
    refine WQ.skip (d := 87) Q0 Q0 Q0 Q0 ?_
    refine WQ.p Q0 (fun w hs => Yl.pickF Q0 Q0) ?_
    refine WQ.p Q0 (fun w hs => Yl.assign Q0) ?_
    refine WQ.next ?_
    clear hs; intro w hs
    refine WC.ret ?_
    refine fin1' rfl Q0 ?_
    refine RetP.mk hs ?_
    first
     | rfl
     | (clear hs; simp_all [digest_own, digest_next]; done)
     | (clear hs; simp_all [digest_own, digest_next, checkDigest]; done)
     | (clear hs; simp_all [TResponse.isv, inR]; done)
     | (clear hs; simp_all [notFound]; done)

end Go.Sw
