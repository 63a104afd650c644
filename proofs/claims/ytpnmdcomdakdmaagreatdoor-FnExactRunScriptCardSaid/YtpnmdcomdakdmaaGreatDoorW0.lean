/- Walks: what each function of the program returns, for every input. Printed by gen.py. -/
import Derived.Test.YtpnmdcomdakdmaaGreatDoorFx
set_option linter.all false
namespace Go.Sw
open Go Go.RowKit Go.Proofs

theorem c_impl_ColorOf (l : (Sl PSheet)) (name : Str) (w : World) (h_l : Ph.ok w l)  : Calls Tryz.prog 31 [Sl.v l, S name].toArray w (RetP w (I (colorOf name l.l))) := by
 have hw := h_l.lt
 refine enterN 45 Tryz.func31 rfl rfl rfl ?_
 have hs := Sat.start w
 refine WC.seq ?_
 refine Qa ?_
 refine WL.next ?_
 refine WC.seq' ?_
 refine WC.seq ?_
 refine Qm ?_
 refine WL.p Q0 (Yl.len_sl slu54 Q0) ?_
 refine WL.p Q0 (Yl.sub_ Q0 Q0 Q7) ?_
 refine Qa ?_
 refine WL.next ?_
 refine WC.block ?_
 refine WC.loopC (ι := Nat) (fun k => k) (fun k => [(5, I ((k : Int) - 1))]) (fun _ => []) (fun k => k ≤ l.l.length ∧ colSR name l.l.reverse = colSR name (l.l.take k).reverse) [(0, _), (1, _)] l.l.length (hs) ⟨by rfl, by rfl, trivial⟩ ⟨by rfl, trivial⟩ ?_ ?_
 ·
  exact ⟨Nat.le_refl _, by rw [List.take_length]⟩
 clear hs; rintro k w ⟨hJ1, hJ2⟩ hs
 simp only [List.nil_append] at hs
 have hd2x : ∃ d : PSheet, k ≠ 0 → l.l[k - 1]? = some d := by
  by_cases h9 : k = 0
  · exact ⟨⟨⟨[], none, 0⟩⟩, fun h => absurd h9 h⟩
  · exact ⟨l.l[k - 1]'Q7, fun _ => List.getElem?_eq_getElem Q7⟩
 obtain ⟨d, hd⟩ := hd2x
 refine WC.seq' ?_
 refine WC.seq ?_
 refine Qm ?_
 refine WL.p Q0 (Yl.geq Q0 Q0) ?_
 refine WL.next ?_
 refine WC.condS Q0 (fun h1 => ?_) (fun h1 => ?_)
 ·
  replace h1 := of_decide_eq_true h1
  have hwd := (Sl.Ok.elem h_l (hd Q7)).rules.lt
  refine WC.skipn ?_
  refine WC.seq' ?_
  refine WC.block ?_
  refine WC.seq ?_
  refine Qm ?_
  refine Qm ?_
  refine WL.p Q0 (Yl.indexAddr slt54 Q0 Q0 (Ph.old h_l hs) (by first | rfl | omega) ((hd Q7))) ?_
  refine WL.p Q0 (Yl.fieldAddr fa51_0 Q0) ?_
  refine WL.p Q0 (Yl.loadC sca49 Q0 (Sl.Ok.at_ (Ph.old h_l hs) ((hd Q7))).2 Q0) ?_
  refine WL.p Q0 (Yl.len_sl slu49 Q0) ?_
  refine WL.p Q0 (Yl.sub_ Q0 Q0 Q7) ?_
  refine Qa ?_
  refine WL.next ?_
  refine WC.block ?_
  refine WC.loopC (ι := Nat) (fun m => m) (fun m => [(6, I ((m : Int) - 1))]) (fun _ => []) (fun m => m ≤ d.rules.l.length ∧ colR name d.rules.l.reverse = colR name (d.rules.l.take m).reverse) [(0, _), (1, _), (5, _), (11, _)] d.rules.l.length (hs) ⟨by rfl, by rfl, by rfl, by rfl, trivial⟩ ⟨by rfl, trivial⟩ ?_ ?_
  ·
   exact ⟨Nat.le_refl _, by rw [List.take_length]⟩
  clear hs; rintro m w ⟨hI1, hI2⟩ hs
  simp only [List.nil_append] at hs
  have hd3x : ∃ x : TRule, m ≠ 0 → d.rules.l[m - 1]? = some x := by
   by_cases h9 : m = 0
   · exact ⟨⟨[], 0⟩, fun h => absurd h9 h⟩
   · exact ⟨d.rules.l[m - 1]'Q7, fun _ => List.getElem?_eq_getElem Q7⟩
  obtain ⟨x, hx⟩ := hd3x
  refine WC.seq' ?_
  refine WC.seq ?_
  refine Qm ?_
  refine WL.p Q0 (Yl.geq Q0 Q0) ?_
  refine WL.next ?_
  refine WC.condS Q0 (fun h2 => ?_) (fun h2 => ?_)
  ·
   replace h2 := of_decide_eq_true h2
   refine WC.skipn ?_
   refine WC.seq' ?_
   refine WC.block ?_
   refine WC.seq ?_
   refine Qm ?_
   refine Qm ?_
   refine WL.p Q0 (Yl.indexAddr slt54 Q0 Q0 (Ph.old h_l hs) (by first | rfl | omega) ((hd Q7))) ?_
   refine WL.p Q0 (Yl.fieldAddr fa51_0 Q0) ?_
   refine WL.p Q0 (Yl.loadC sca49 Q0 (Sl.Ok.at_ (Ph.old h_l hs) ((hd Q7))).2 Q0) ?_
   refine Qm ?_
   refine WL.p Q0 (Yl.indexAddr slt49 Q0 Q0 (Ph.old (Sl.Ok.elem h_l (hd Q7)).rules hs) (by first | rfl | omega) ((hx Q7))) ?_
   refine WL.p Q0 (Yl.fieldAddr fa60_0 Q0) ?_
   refine WL.p Q0 (Yl.loadC sca9 Q0 (Sl.Ok.at_ (Ph.old (Sl.Ok.elem h_l (hd Q7)).rules hs) ((hx Q7))).2 Q0) ?_
   refine Qm ?_
   refine WL.p Q0 (Yl.eqs Q0 Q0) ?_
   refine WL.next ?_
   refine WC.condS Q0 (fun h3 => ?_) (fun h3 => ?_)
   ·
    replace h3 := of_decide_eq_true h3
    refine WC.seq ?_
    refine Qm ?_
    refine Qm ?_
    refine WL.p Q0 (Yl.indexAddr slt54 Q0 Q0 (Ph.old h_l hs) (by first | rfl | omega) ((hd Q7))) ?_
    refine WL.p Q0 (Yl.fieldAddr fa51_0 Q0) ?_
    refine WL.p Q0 (Yl.loadC sca49 Q0 (Sl.Ok.at_ (Ph.old h_l hs) ((hd Q7))).2 Q0) ?_
    refine Qm ?_
    refine WL.p Q0 (Yl.indexAddr slt49 Q0 Q0 (Ph.old (Sl.Ok.elem h_l (hd Q7)).rules hs) (by first | rfl | omega) ((hx Q7))) ?_
    refine WL.p Q0 (Yl.fieldAddr fa60_1 Q0) ?_
    refine WL.p Q0 (Yl.loadC sca3 Q0 (Sl.Ok.at_ (Ph.old (Sl.Ok.elem h_l (hd Q7)).rules hs) ((hx Q7))).2 Q0) ?_
    refine Qa ?_
    refine WL.next ?_
    refine WC.ret ?_
    refine At.blockret ?_
    refine At.thenret ?_
    refine At.thenret ?_
    refine At.blockret ?_
    refine At.blockret ?_
    refine At.thenret ?_
    refine At.thenret ?_
    refine At.blockret ?_
    refine At.thenret ?_
    refine fin1' rfl Q0 ?_
    refine RetP.mk hs ?_
    rw [colorOf, hJ2, colSR_some Q7 (hd Q7) (hI2.trans (colR_yes Q7 (hx Q7) (by assumption)))]; rfl
   ·
    replace h3 := of_decide_eq_false h3
    refine WC.skip ?_
    refine At.blocknormal ?_
    refine At.then_ ?_
    refine WC.region ?_
    refine Qm ?_
    refine WL.p Q0 (Yl.sub_ Q0 Q0 Q7) ?_
    refine Qa ?_
    refine WL.nil ?_
    refine At.roundC (m - 1) (hs.only Q2) ⟨by rfl, by rfl, by rfl, by rfl, trivial⟩ ⟨by exact congrArg (fun z => some (I z)) Q7, trivial⟩ ?_ ?_
    ·
     omega
    ·
     exact ⟨by omega, by rw [hI2]; exact colR_no Q7 (hx Q7) (by assumption)⟩
  ·
   replace h2 := of_decide_eq_false h2
   refine WC.exit ?_
   refine At.thenexit ?_
   refine At.thenexit ?_
   refine At.blockexit ?_
   refine At.blocknormal ?_
   refine At.then_ ?_
   refine WC.region ?_
   refine Qm ?_
   refine WL.p Q0 (Yl.sub_ Q0 Q0 Q7) ?_
   refine Qa ?_
   refine WL.nil ?_
   refine At.roundC (k - 1) (hs.only Q2) ⟨by rfl, by rfl, trivial⟩ ⟨by exact congrArg (fun z => some (I z)) Q7, trivial⟩ ?_ ?_
   ·
    omega
   ·
    exact ⟨by omega, by rw [hJ2]; exact colSR_none Q7 (hd Q7) (by rw [hI2, show m = 0 from by omega]; rfl)⟩
 ·
  replace h1 := of_decide_eq_false h1
  refine WC.exit ?_
  refine At.thenexit ?_
  refine At.thenexit ?_
  refine At.blockexit ?_
  refine At.then_ ?_
  refine WC.seq ?_
  refine Qa ?_
  refine WL.next ?_
  refine WC.ret ?_
  refine fin1' rfl Q0 ?_
  refine RetP.mk hs ?_
  rw [colorOf, hJ2, show k = 0 from by omega]; rfl

theorem c_impl_InRange (n : Int) (low : Int) (high : Int) (w : World)   : Calls Tryz.prog 90 [I n, I low, I high].toArray w (RetP w (Bo (inR n low high))) := by
 refine enterN 15 Tryz.func90 rfl rfl rfl ?_
 have hs := Sat.start w
 refine WC.seq ?_
 refine Qa ?_
 refine WL.next ?_
 refine WC.seq ?_
 refine Qm ?_
 refine Qm ?_
 refine WL.p Q0 (Yl.leq Q0 Q0) ?_
 refine Qm ?_
 refine WL.split (d := 10) Q0 (fun h1 => ?_) (fun h1 => ?_)
 ·
  replace h1 := of_decide_eq_true h1
  refine WL.run (d := 10) Q0 Q0 ?_
  refine Qm ?_
  refine WL.run (d := 10) Q0 Q0 ?_
  refine Qm ?_
  refine WL.run (d := 10) Q0 Q0 ?_
  refine WL.p Q0 (Yl.leq Q0 Q0) ?_
  refine WL.p Q0 (Yl.pickT Q0 Q0) ?_
  refine Qa ?_
  refine WL.next ?_
  refine WC.ret ?_
  refine fin1' rfl Q0 ?_
  refine RetP.mk hs ?_
  simp [inR, h1]
 ·
  replace h1 := of_decide_eq_false h1
  refine WL.skip (d := 10) Q0 Q0 Q0 Q0 ?_
  refine WL.skip (d := 10) Q0 Q0 Q0 Q0 ?_
  refine WL.skip (d := 10) Q0 Q0 Q0 Q0 ?_
  refine WL.p Q0 (Yl.pickF Q0 Q0) ?_
  refine Qa ?_
  refine WL.next ?_
  refine WC.ret ?_
  refine fin1' rfl Q0 ?_
  refine RetP.mk hs ?_
  rw [inR_false.2 Q7]

theorem c_impl_IsName (s : Str) (w : World) (h_s : Ph.ok w s)  : Calls Tryz.prog 106 [S s].toArray w (RetP w (Bo (isName s))) := by
 have hw : s.length ≤ 9223372036854775807 := h_s
 refine enterN 23 Tryz.func106 rfl rfl rfl ?_
 have hs := Sat.start w
 refine WC.seq ?_
 refine Qa ?_
 refine WL.next ?_
 refine WC.seq' ?_
 refine WC.seq ?_
 refine Qa ?_
 refine WL.next ?_
 refine WC.block ?_
 refine WC.loopC (ι := Nat) (fun k => s.length - k) (fun k => [(3, I (k : Int))]) (fun _ => []) (fun k => s.all lower = (s.drop k).all lower) [(0, _)] 0 (hs) ⟨by rfl, trivial⟩ ⟨by rfl, trivial⟩ ?_ ?_
 ·
  simp
 clear hs; rintro k w hJ hs
 simp only [List.nil_append] at hs
 refine WC.seq' ?_
 refine WC.seq ?_
 refine Qm ?_
 refine Qm ?_
 refine WL.p Q0 (Yl.len_str str9 Q0) ?_
 refine WL.p Q0 (Yl.lss Q0 Q0) ?_
 refine WL.next ?_
 refine WC.condS Q0 (fun h1 => ?_) (fun h1 => ?_)
 ·
  replace h1 := of_decide_eq_true h1
  obtain ⟨d, hd⟩ := exists_get (l := s) (k := k) Q7
  rw [drop_cons hd] at hJ
  refine WC.skipn ?_
  refine WC.seq' ?_
  refine WC.block ?_
  refine WC.seq ?_
  refine Qm ?_
  refine Qm ?_
  refine WL.p Q0 (Yl.index str9 Q0 Q0 Q0 (by first | assumption | exact List.getElem?_eq_getElem Q7)) ?_
  refine WL.p Q0 (Yl.lss Q0 Q0) ?_
  refine Qm ?_
  refine WL.split (d := 14) Q0 (fun h2 => ?_) (fun h2 => ?_)
  ·
   replace h2 := of_decide_eq_true h2
   refine WL.skip (d := 14) Q0 Q0 Q0 Q0 ?_
   refine WL.skip (d := 14) Q0 Q0 Q0 Q0 ?_
   refine WL.skip (d := 14) Q0 Q0 Q0 Q0 ?_
   refine WL.skip (d := 14) Q0 Q0 Q0 Q0 ?_
   refine WL.p Q0 (Yl.pickT Q0 Q0) ?_
   refine WL.next ?_
   refine WC.condT Q0 ?_
   refine WC.seq ?_
   refine Qa ?_
   refine WL.next ?_
   refine WC.ret ?_
   refine At.blockret ?_
   refine At.thenret ?_
   refine At.thenret ?_
   refine At.blockret ?_
   refine At.thenret ?_
   refine fin1' rfl Q0 ?_
   refine RetP.mk hs ?_
   first
    | (simp [isName, hJ, lower]; done)
    | (simp [isName, hJ, lower]; omega)
    | simp_all [isName, hJ, lower]
  ·
   replace h2 := of_decide_eq_false h2
   refine WL.run (d := 14) Q0 Q0 ?_
   refine Qm ?_
   refine WL.run (d := 14) Q0 Q0 ?_
   refine Qm ?_
   refine WL.run (d := 14) Q0 Q0 ?_
   refine WL.p Q0 (Yl.index str9 Q0 Q0 Q0 (by first | assumption | exact List.getElem?_eq_getElem Q7)) ?_
   refine WL.run (d := 14) Q0 Q0 ?_
   refine WL.p Q0 (Yl.gtr Q0 Q0) ?_
   refine WL.p Q0 (Yl.pickF Q0 Q0) ?_
   refine WL.next ?_
   refine WC.condS Q0 (fun h3 => ?_) (fun h3 => ?_)
   ·
    replace h3 := of_decide_eq_true h3
    refine WC.seq ?_
    refine Qa ?_
    refine WL.next ?_
    refine WC.ret ?_
    refine At.blockret ?_
    refine At.thenret ?_
    refine At.thenret ?_
    refine At.blockret ?_
    refine At.thenret ?_
    refine fin1' rfl Q0 ?_
    refine RetP.mk hs ?_
    first
     | (simp [isName, hJ, lower]; done)
     | (simp [isName, hJ, lower]; omega)
     | simp_all [isName, hJ, lower]
   ·
    replace h3 := of_decide_eq_false h3
    refine WC.skip ?_
    refine At.blocknormal ?_
    refine At.then_ ?_
    refine WC.region ?_
    refine Qm ?_
    refine WL.p Q0 (Yl.add Q0 Q0 Q7) ?_
    refine Qa ?_
    refine WL.nil ?_
    refine At.roundC (k + 1) (hs.only Q2) ⟨by rfl, trivial⟩ ⟨by rfl, trivial⟩ ?_ ?_
    ·
     omega
    ·
     rw [hJ]; simp [lower]; omega
 ·
  replace h1 := of_decide_eq_false h1
  rw [drop_out (l := s) Q7] at hJ
  refine WC.exit ?_
  refine At.thenexit ?_
  refine At.thenexit ?_
  refine At.blockexit ?_
  refine At.then_ ?_
  refine WC.seq ?_
  refine Qm ?_
  refine WL.p Q0 (Yl.len_str str9 Q0) ?_
  refine WL.callp hs Q0 (Yc.func Q0 fn90) (c_impl_InRange _ _ _ _) ?_
  clear hs; intro w hs
  refine Qa ?_
  refine WL.next ?_
  refine WC.ret ?_
  refine fin1' rfl Q0 ?_
  refine RetP.mk hs ?_
  first
   | (simp [isName, hJ, lower]; done)
   | (simp [isName, hJ, lower]; omega)
   | simp_all [isName, hJ, lower]

theorem c_strconv_Itoa (n : Int) (w : World) (h_n : Ph.ok w n) (ht_ : Tab10 Tryz.prog w) : Calls Tryz.prog 198 [I n].toArray w (RetP w (S (Lib.itoa n))) := by
 exact itoa_calls Tryz.strconv_Itoa n w h_n ht_

theorem c_impl_FormatInt (n : Int) (w : World) (h_n : Ph.ok w n) (ht_ : Tab10 Tryz.prog w) : Calls Tryz.prog 112 [I n].toArray w (RetP w (S (Lib.itoa n))) := by
 refine enterN 5 Tryz.func112 rfl rfl rfl ?_
 have hs := Sat.start w
 refine WC.seq ?_
 refine Qa ?_
 refine WL.next ?_
 refine WC.seq ?_
 refine Qm ?_
 refine WL.callp hs Q0 (Yc.func Q0 fn198) (c_strconv_Itoa _ _ (Ph.old h_n hs) (by first | assumption | exact Sat.tab hs (by assumption))) ?_
 clear hs; intro w hs
 refine Qa ?_
 refine WL.next ?_
 refine WC.ret ?_
 refine fin1' rfl Q0 ?_
 refine RetP.mk hs ?_
 rfl

theorem c_impl_copyBuilder (b : PBuilder) (w : World) (h_b : Ph.ok w b) (hb : b.lg.size ≤ 1048576) : Calls Tryz.prog 133 [.agg #[Sl.v b.nodes, Sl.v b.opn]].toArray w (Ret w (fun v w' => ∃ x : PBuilder, v = .agg (Ph.enc x).toArray ∧ x.lg = b.lg ∧ Fresh w x w')) := by
 have hw := h_b.nodes.lt
 have hbn : lsz TNode.size (b.nodes.l.map PNode.lg) ≤ 1048576 := by simp only [TBuilder.size, PBuilder.lg] at hb; simp only [lsz] at *; omega
 have hbo : b.opn.l.length ≤ 1048576 := by simp only [TBuilder.size, PBuilder.lg, lsz] at hb; omega
 have hbl : b.nodes.l.length ≤ 1048576 := by simp only [lsz, List.length_map] at hbn; omega
 refine enterN 31 Tryz.func133 rfl rfl rfl ?_
 have hs := Sat.start w
 refine WC.seq ?_
 refine WL.r Q0 (Yr.box hs Q0 Q0) ?_
 clear hs; rintro _ w ⟨b1, rfl, hb, hs⟩; clear hb
 refine WL.r Q0 (Yr.alloc hs zt64) ?_
 clear hs; rintro _ w ⟨b2, rfl, hb, hs⟩; clear hb
 refine WL.next ?_
 refine WC.seq ?_
 refine WL.r Q0 (Yr.buildSlice hs sll62 Q0 Q0 Q0 Q4 Q0) ?_
 clear hs; rintro _ w ⟨b3, rfl, hb, hs⟩; clear hb
 refine WL.p Q0 (Yl.fieldAddr fa64_1 Q0) ?_
 refine WL.p Q0 (Yl.loadB sca62 Q0 hs Q1 Q0) ?_
 replace hs := (Sat.boxow (l := ([] : List Int)) (hs.sel (D := [box b3 _ _]) Q2) rfl rfl (by simp [maxLen]) (ownL_mk_flat (by simp)))
 refine WL.r Q0 (Yr.appendS (s := (⟨[], some ⟨b3, 0, none⟩, _⟩ : Sl Int)) (F := [b3]) (r := b.opn) hs elt62 Q2 Q0 Q0 (Ph.old h_b.opn hs) (by first | (rw [hql]; unfold maxLen; omega) | (simp; unfold maxLen; omega)) (by first | (rw [hql]; omega) | (simp; omega))) ?_
 clear hs; rintro _ w ⟨s4, F4, rfl, hl4, hs⟩
 refine WL.p Q0 (Yl.build bt64 Q0 Q4) ?_
 refine WL.r Q0 (Yr.alloc hs zt64) ?_
 clear hs; rintro _ w ⟨b5, rfl, hb, hs⟩; clear hb
 refine WL.s (Yr.storeB hs Q0 Q0 Q0 Q5 Q3 Q0 (by exact szf64)) ?_
 clear hs; rintro _ w hs
 refine WL.next ?_
 refine WC.seq' ?_
 refine WC.seq ?_
 refine WL.p Q0 (Yl.fieldAddr fa64_0 Q0) ?_
 refine WL.p Q0 (Yl.loadB sca61 Q0 hs Q1 Q0) ?_
 refine WL.p Q0 (Yl.len_sl slu61 Q0) ?_
 refine Qm ?_
 refine WL.next ?_
 refine WC.block ?_
 replace hs := Sat.nilsl (α := PNode) hs
 refine WC.loopC (ι := Nat × Sl PNode × List Nat) (fun ⟨k, q, F⟩ => b.nodes.l.length - k) (fun ⟨k, q, F⟩ => [(14, I (k : Int))]) (fun ⟨k, q, F⟩ => [box b5 64 [Sl.v q, Sl.v s4], ow q F]) (fun ⟨k, q, F⟩ => k ≤ b.nodes.l.length ∧ q.l.map PNode.lg = (b.nodes.l.take k).map PNode.lg) [(0, _), (1, _), (2, _), (3, _), (12, _), (13, _)] (0, ⟨[], none, 0⟩, []) (hs.sel (D := [box b5 64 _, ow (⟨[], none, 0⟩ : Sl PNode) []]) Q2) ⟨by rfl, by rfl, by rfl, by rfl, by rfl, by rfl, trivial⟩ ⟨by rfl, trivial⟩ ?_ ?_
 ·
  exact ⟨Nat.zero_le _, rfl⟩
 clear hs; rintro ⟨k, q, F⟩ w ⟨hJ1, hJ2⟩ hs
 simp only [List.cons_append, List.nil_append] at hs
 refine WC.seq ?_
 refine WL.p Q0 (Yl.lss Q0 Q0) ?_
 refine WL.next ?_
 refine WC.seq' ?_
 refine WC.condS Q0 (fun h1 => ?_) (fun h1 => ?_)
 ·
  replace h1 := of_decide_eq_true h1
  obtain ⟨d, hd⟩ := exists_get (l := b.nodes.l) (k := k) Q7
  have hql : q.l.length = k := by have := congrArg List.length hJ2; simp at this; omega
  have hdl := lsum_le (f := fun d : PNode => d.lg.size) (List.mem_of_getElem? hd)
  have hdf : d.attrs.l.length ≤ 1048576 := by rw [lsz_map] at hbn; simp only [lsz, TNode.size] at hbn hdl; omega
  refine WC.skipn ?_
  refine WC.seq' ?_
  refine WC.block ?_
  refine WC.seq ?_
  refine WL.p Q0 (Yl.indexAddr slt61 Q0 Q0 (Ph.old h_b.nodes hs) Q0 (hd)) ?_
  refine WL.p Q0 (Yl.loadA agg165 Q0 (Sl.Ok.at_ (Ph.old h_b.nodes hs) (by assumption)).2 Q0) ?_
  refine WL.r Q0 (Yr.alloc hs zt165) ?_
  clear hs; rintro _ w ⟨b6, rfl, hb, hs⟩; clear hb
  refine WL.s (Yr.storeB hs Q0 Q0 Q0 Q5 Q3 Q0 (by exact szf165)) ?_
  clear hs; rintro _ w hs
  refine WL.next ?_
  refine WC.seq ?_
  refine WL.r Q0 (Yr.buildSlice hs sll163 Q0 Q0 Q0 Q4 Q0) ?_
  clear hs; rintro _ w ⟨b7, rfl, hb, hs⟩; clear hb
  refine WL.p Q0 (Yl.fieldAddr fa165_3 Q0) ?_
  refine WL.p Q0 (Yl.loadB sca163 Q0 hs Q1 Q0) ?_
  replace hs := (Sat.boxow (l := ([] : List TAttr)) (hs.sel (D := [box b7 _ _]) Q2) rfl rfl (by simp [maxLen]) (ownL_mk_flat (by simp)))
  refine WL.r Q0 (Yr.appendS (s := (⟨[], some ⟨b7, 0, none⟩, _⟩ : Sl TAttr)) (F := [b7]) (r := d.attrs) hs elt163 Q2 Q0 Q0 (Ph.old (Sl.Ok.elem h_b.nodes hd).attrs hs) (by first | (rw [hql]; unfold maxLen; omega) | (simp; unfold maxLen; omega)) (by first | (rw [hql]; omega) | (simp; omega))) ?_
  clear hs; rintro _ w ⟨s8, F8, rfl, hl8, hs⟩
  refine WL.p Q0 (Yl.fieldAddr fa165_3 Q0) ?_
  refine WL.s (Yr.storeB hs Q0 Q0 Q0 Q5 Q3 Q0 (by exact szf163)) ?_
  clear hs; rintro _ w hs
  refine WL.next ?_
  refine WC.region ?_
  refine WL.p Q0 (Yl.fieldAddr fa64_0 Q0) ?_
  refine WL.p Q0 (Yl.loadB sca61 Q0 hs Q1 Q0) ?_
  refine WL.p Q0 (Yl.loadAB agg165 Q0 hs Q1 Q0 Q0) ?_
  refine WL.r Q0 (Yr.buildSlice hs sll61 Q0 Q0 Q0 Q4 Q0) ?_
  clear hs; rintro _ w ⟨b9, rfl, hb, hs⟩; clear hb
  replace hs := PNode.join (⟨d.name, d.text, d.parent, s8⟩ : PNode) (hs.sel (D := [ow s8 F8]) Q2) (by first | exact (Ph.old (Sl.Ok.elem h_b.nodes hd).name hs) | (refine Ph.old ?_ hs; assumption)) (by first | exact (Ph.old (Sl.Ok.elem h_b.nodes hd).text hs) | (refine Ph.old ?_ hs; assumption)) (by first | exact (Ph.old (Sl.Ok.elem h_b.nodes hd).parent hs) | (refine Ph.old ?_ hs; assumption))
  try simp only [List.cons_append, List.nil_append] at hs
  refine WL.r Q0 (Yr.appendE (s := q) (F := F) (u := (⟨d.name, d.text, d.parent, s8⟩ : PNode)) (G := F8) hs elt61 Q2 Q0 Q0 (hs.box_cells Q1) (by first | (rw [hql]; unfold maxLen; omega) | (simp; unfold maxLen; omega)) (by first | (rw [hql]; omega) | (simp; omega))) ?_
  clear hs; rintro _ w ⟨s10, F10, rfl, hl10, hs⟩
  refine WL.p Q0 (Yl.fieldAddr fa64_0 Q0) ?_
  refine WL.s (Yr.storeB hs Q0 Q0 Q0 Q5 Q3 Q0 (by exact szf61)) ?_
  clear hs; rintro _ w hs
  refine WL.nil ?_
  refine At.blocknormal ?_
  refine At.then_ ?_
  refine WC.region ?_
  refine WL.p Q0 (Yl.add Q0 Q0 Q7) ?_
  refine Qm ?_
  refine WL.nil ?_
  refine At.roundC (k + 1, s10, F10) (hs.only Q2) ⟨by rfl, by rfl, by rfl, by rfl, by rfl, by rfl, trivial⟩ ⟨by rfl, trivial⟩ ?_ ?_
  ·
   show b.nodes.l.length - (k + 1) < b.nodes.l.length - k
   omega
  ·
   exact ⟨by omega, by rw [hl10, List.map_append, hJ2, List.take_add_one, hd]; simp [PNode.lg, *]⟩
 ·
  replace h1 := of_decide_eq_false h1
  refine WC.exit ?_
  refine At.thenexit ?_
  refine At.thenexit ?_
  refine At.blockexit ?_
  refine At.then_ ?_
  refine WC.seq ?_
  refine WL.p Q0 (Yl.loadAB agg64 Q0 hs Q1 Q0 Q0) ?_
  refine WL.s (Yr.storeB hs Q0 Q0 Q0 Q5 Q3 Q0 (by exact szf64)) ?_
  clear hs; rintro _ w hs
  refine WL.next ?_
  refine WC.ret ?_
  refine fin1c rfl agg64 Q0 hs Q1 Q0 ?_
  refine Ret.mk hs ?_
  refine ⟨⟨q, s4⟩, rfl, ?_, ?_⟩
  · have hk9 : List.take k (List.map PNode.lg b.nodes.l) = List.map PNode.lg b.nodes.l := List.take_of_length_le (by simp; omega); simp_all [PBuilder.lg]
  · exact (PBuilder.join _ (hs.only (D := [ow q F, ow s4 F4]) Q2) ).fresh List.mem_cons_self

theorem c_impl_MarkupOf (s : Str) (w : World)  (hb : s.length ≤ 1048576) : Calls Tryz.prog 134 [S s].toArray w (RetP w (S (s.map mkB))) := by
 exact mo_impl s w hb

theorem c_impl_CountName (b : PBuilder) (name : Str) (w : World) (h_b : Ph.ok w b)  : Calls Tryz.prog 135 [.agg #[Sl.v b.nodes, Sl.v b.opn], S name].toArray w (RetP w (I (countN name b.nodes.l : Int))) := by
 have hw := h_b.nodes.lt
 refine enterN 23 Tryz.func135 rfl rfl rfl ?_
 have hs := Sat.start w
 refine WC.seq ?_
 refine WL.r Q0 (Yr.box hs Q0 Q0) ?_
 clear hs; rintro _ w ⟨b1, rfl, hb, hs⟩; clear hb
 refine Qa ?_
 refine WL.next ?_
 refine WC.seq ?_
 refine Qa ?_
 refine WL.next ?_
 refine WC.seq' ?_
 refine WC.seq ?_
 refine WL.p Q0 (Yl.fieldAddr fa64_0 Q0) ?_
 refine WL.p Q0 (Yl.loadB sca61 Q0 hs Q1 Q0) ?_
 refine WL.p Q0 (Yl.len_sl slu61 Q0) ?_
 refine Qm ?_
 refine WL.next ?_
 refine WC.block ?_
 refine WC.loopC (ι := Nat × Nat) (fun ⟨k, m⟩ => b.nodes.l.length - k) (fun ⟨k, m⟩ => [(11, I (k : Int)), (5, I (m : Int))]) (fun _ => []) (fun ⟨k, m⟩ => m ≤ k ∧ countN name b.nodes.l = m + countN name (b.nodes.l.drop k)) [(0, _), (1, _), (2, _), (4, _), (9, _), (10, _)] (0, 0) (hs) ⟨by rfl, by rfl, by rfl, by rfl, by rfl, by rfl, trivial⟩ ⟨by rfl, by rfl, trivial⟩ ?_ ?_
 ·
  exact ⟨Nat.le_refl _, by simp⟩
 clear hs; rintro ⟨k, m⟩ w ⟨hJ1, hJ2⟩ hs
 simp only [List.nil_append] at hs
 refine WC.seq ?_
 refine WL.p Q0 (Yl.lss Q0 Q0) ?_
 refine WL.next ?_
 refine WC.seq' ?_
 refine WC.condS Q0 (fun h1 => ?_) (fun h1 => ?_)
 ·
  replace h1 := of_decide_eq_true h1
  obtain ⟨d, hd⟩ := exists_get (l := b.nodes.l) (k := k) Q7
  rw [drop_cons hd] at hJ2
  refine WC.skipn ?_
  refine WC.seq' ?_
  refine WC.block ?_
  refine WC.seq ?_
  refine WL.p Q0 (Yl.indexAddr slt61 Q0 Q0 (Ph.old h_b.nodes hs) Q0 (hd)) ?_
  refine WL.p Q0 (Yl.loadA agg165 Q0 (Sl.Ok.at_ (Ph.old h_b.nodes hs) (by assumption)).2 Q0) ?_
  refine WL.r Q0 (Yr.alloc hs zt165) ?_
  clear hs; rintro _ w ⟨b2, rfl, hb, hs⟩; clear hb
  refine WL.s (Yr.storeB hs Q0 Q0 Q0 Q5 Q3 Q0 (by exact szf165)) ?_
  clear hs; rintro _ w hs
  refine WL.next ?_
  refine WC.seq ?_
  refine WL.p Q0 (Yl.fieldAddr fa165_0 Q0) ?_
  refine WL.p Q0 (Yl.loadB sca9 Q0 hs Q1 Q0) ?_
  refine Qm ?_
  refine WL.p Q0 (Yl.eqs Q0 Q0) ?_
  refine WL.next ?_
  refine WC.condS Q0 (fun h2 => ?_) (fun h2 => ?_)
  ·
   replace h2 := of_decide_eq_true h2
   refine WC.region ?_
   refine Qm ?_
   refine WL.p Q0 (Yl.add Q0 Q0 Q7) ?_
   refine Qa ?_
   refine WL.nil ?_
   refine At.blocknormal ?_
   refine At.then_ ?_
   refine WC.region ?_
   refine WL.p Q0 (Yl.add Q0 Q0 Q7) ?_
   refine Qm ?_
   refine WL.nil ?_
   refine At.roundC (k + 1, m + 1) (hs.only Q2) ⟨by rfl, by rfl, by rfl, by rfl, by rfl, by rfl, trivial⟩ ⟨by rfl, by rfl, trivial⟩ ?_ ?_
   ·
    show b.nodes.l.length - (k + 1) < b.nodes.l.length - k
    omega
   ·
    rw [countN_yes (by assumption)] at hJ2
    exact ⟨by omega, by omega⟩
  ·
   replace h2 := of_decide_eq_false h2
   refine WC.skip ?_
   refine At.blocknormal ?_
   refine At.then_ ?_
   refine WC.region ?_
   refine WL.p Q0 (Yl.add Q0 Q0 Q7) ?_
   refine Qm ?_
   refine WL.nil ?_
   refine At.roundC (k + 1, m) (hs.only Q2) ⟨by rfl, by rfl, by rfl, by rfl, by rfl, by rfl, trivial⟩ ⟨by rfl, by rfl, trivial⟩ ?_ ?_
   ·
    show b.nodes.l.length - (k + 1) < b.nodes.l.length - k
    omega
   ·
    rw [countN_no (by assumption)] at hJ2
    exact ⟨by omega, by omega⟩
 ·
  replace h1 := of_decide_eq_false h1
  rw [drop_out (l := b.nodes.l) Q7] at hJ2
  refine WC.exit ?_
  refine At.thenexit ?_
  refine At.thenexit ?_
  refine At.blockexit ?_
  refine At.then_ ?_
  refine WC.seq ?_
  refine Qm ?_
  refine Qa ?_
  refine WL.next ?_
  refine WC.ret ?_
  refine fin1' rfl Q0 ?_
  refine RetP.mk hs ?_
  rw [hJ2]; simp [countN]

theorem c_impl_RunLine (b : PBuilder) (sheets : (Sl PSheet)) (y : TLine) (w : World) (h_b : Ph.ok w b) (h_sheets : Ph.ok w sheets) (h_y : Ph.ok w y) (hb : b.lg.size ≤ 1048576) (hbt : y.text.length ≤ 1048576) (ht_ : Tab10 Tryz.prog w) : Calls Tryz.prog 43 [.agg #[Sl.v b.nodes, Sl.v b.opn], Sl.v sheets, .agg #[I y.op, S y.text]].toArray w (Ret w (fun v w' => ∃ x : PBuilder, v = .tuple #[.agg (Ph.enc x).toArray, S (if y.op = 1 then y.text.map mkB else []), S (runSaid b.lg (sheets.l.map PSheet.lg) y)] ∧ x.lg = runOut b.lg y ∧ Fresh w x w')) := by
 have hi1 := itoa_len (countN_wf y.text h_b.nodes.lt)
 have hi2 := itoa_len (colorOf_wf (name := y.text) (fun s hs9 x hx9 => (Sl.Ok.elems (h_sheets.elems s hs9).rules x hx9).color))
 refine enterN 73 Tryz.func43 rfl rfl rfl ?_
 have hs := Sat.start w
 refine WC.seq ?_
 refine WL.r Q0 (Yr.box hs Q0 Q0) ?_
 clear hs; rintro _ w ⟨b1, rfl, hb, hs⟩; clear hb
 refine WL.r Q0 (Yr.box hs Q0 Q0) ?_
 clear hs; rintro _ w ⟨b2, rfl, hb, hs⟩; clear hb
 refine WL.r Q0 (Yr.alloc hs zt64) ?_
 clear hs; rintro _ w ⟨b3, rfl, hb, hs⟩; clear hb
 refine Qa ?_
 refine Qa ?_
 refine WL.next ?_
 refine WC.seq ?_
 refine WL.p Q0 (Yl.loadAB agg64 Q0 hs Q1 Q0 Q0) ?_
 refine WL.call hs Q0 (Yc.func Q0 fn133) (c_impl_copyBuilder _ _ (Ph.old h_b hs) (by exact hb)) ?_
 have hs0 := hs; clear hs; intro v w hb hR hs; clear hs
 obtain ⟨x4, rfl, hx4, hf4⟩ := hR
 obtain ⟨F4, hs⟩ := hf4.sat hs0 hb; clear hs0 hf4
 refine WL.r Q0 (Yr.alloc hs zt64) ?_
 clear hs; rintro _ w ⟨b5, rfl, hb, hs⟩; clear hb
 refine WL.s (Yr.storeB hs Q0 Q0 Q0 Q5 Q3 Q0 (by exact szf64)) ?_
 clear hs; rintro _ w hs
 refine WL.next ?_
 refine WC.seq' ?_
 refine WC.seq ?_
 refine WL.p Q0 (Yl.fieldAddr fa87_0 Q0) ?_
 refine WL.p Q0 (Yl.loadB sca3 Q0 hs Q1 Q0) ?_
 refine WL.next ?_
 refine WC.block ?_
 refine WC.seq ?_
 refine WL.p Q0 (Yl.eqi Q0 Q0) ?_
 refine Qa ?_
 refine WL.next ?_
 refine WC.condS Q0 (fun h1 => ?_) (fun h1 => ?_)
 ·
  replace h1 := of_decide_eq_true h1
  refine WC.anyn2 (c := box b3 _ _) mixed hs (by repeat (first | exact Ext.here | apply Ext.there)) ?_
  clear hs; intro w hs
  refine WA.p (i := 0) Q0 Q6 Q6 Q6 Q0 (hs.only Q2) (fun w hs => Yl.loadAB agg64 Q0 hs Q1 Q0 Q0) ?_
  refine WA.p (i := 1) Q0 Q6 Q6 Q6 Q0 (hs.only Q2) (fun w hs => Yl.fieldAddr fa87_1 Q0) ?_
  refine WA.p (i := 2) Q0 Q6 Q6 Q6 Q0 (hs.only Q2) (fun w hs => Yl.loadB sca9 Q0 hs Q1 Q0) ?_
  refine WA.callp2 (i := 3) hs (fun _ hs => hs.only Q2) Q6 Q0 Q0 (Yc.func Q0 fn134) (c_impl_MarkupOf _ _ (by exact hbt)) ?_
  clear hs; intro w hs
  refine WA.s (i := 4) Q6 Q0 (Yr.storeB hs Q0 Q0 Q0 Q5 Q3 Q0 (by exact szf64)) (by rintro _ w hs; exact hs.only Q2) ?_
  clear hs; rintro _ w hs
  refine WA.p (i := 5) Q0 Q6 Q6 Q6 Q0 (hs.only Q2) (fun w hs => Yl.assign Q0) ?_
  refine WA.p (i := 6) Q0 Q6 Q6 Q6 Q0 (hs.only Q2) (fun w hs => Yl.assign Q0) ?_
  refine WA.donen Q6 ?_
  refine WC.ret ?_
  refine At.blockret ?_
  refine At.thenret ?_
  refine fin3c rfl agg64 Q0 Q0 Q0 hs Q1 Q0 ?_
  refine Ret.mk hs ?_
  refine ⟨x4, ?_, ?_, hs.fresh Q1⟩
  · simp_all [runSaid, countN_lg, colorOf_lg, PBuilder.lg] <;> rfl
  · first
    | (simp_all [runOut, inR_true, inR_false]; done)
    | (rw [runOut, if_neg (by rintro ⟨a1, a2, a3⟩; simp only [inR_true, inR_false, PBuilder.lg, List.length_map] at *; first | omega | simp_all)]; assumption)
 ·
  replace h1 := of_decide_eq_false h1
  refine WC.seq ?_
  refine WL.p Q0 (Yl.eqi Q0 Q0) ?_
  refine Qa ?_
  refine WL.next ?_
  refine WC.condS Q0 (fun h2 => ?_) (fun h2 => ?_)
  ·
   replace h2 := of_decide_eq_true h2
   refine WC.seq' ?_
   refine WC.seq ?_
   refine WL.p Q0 (Yl.fieldAddr fa64_0 Q0) ?_
   refine WL.p Q0 (Yl.loadB sca61 Q0 hs Q1 Q0) ?_
   refine WL.p Q0 (Yl.len_sl slu61 Q0) ?_
   refine WL.callp hs Q0 (Yc.func Q0 fn90) (c_impl_InRange _ _ _ _) ?_
   clear hs; intro w hs
   refine Qm ?_
   refine WL.split (d := 26) Q0 (fun h3 => ?_) (fun h3 => ?_)
   ·
    replace h3 := inR_true.1 h3
    refine WL.run (d := 26) Q0 Q0 ?_
    refine WL.p Q0 (Yl.fieldAddr fa87_1 Q0) ?_
    refine WL.run (d := 26) Q0 Q0 ?_
    refine WL.p Q0 (Yl.loadB sca9 Q0 hs Q1 Q0) ?_
    refine WL.run (d := 26) Q0 Q0 ?_
    refine WL.callp hs Q0 (Yc.func Q0 fn106) (c_impl_IsName _ _ (Ph.old h_y.text hs)) ?_
    clear hs; intro w hs
    refine WL.p Q0 (Yl.pickT Q0 Q0) ?_
    refine WL.next ?_
    refine WC.condS Q0 (fun h4 => ?_) (fun h4 => ?_)
    ·
     refine WC.region ?_
     refine WL.p Q0 (Yl.fieldAddr fa64_0 Q0) ?_
     refine WL.p Q0 (Yl.loadB sca61 Q0 hs Q1 Q0) ?_
     refine WL.p Q0 (Yl.fieldAddr fa87_1 Q0) ?_
     refine WL.p Q0 (Yl.loadB sca9 Q0 hs Q1 Q0) ?_
     refine WL.p Q0 (Yl.build bt165 Q0 Q4) ?_
     refine WL.r Q0 (Yr.buildSlice hs sll61 Q0 Q0 Q0 Q4 Q0) ?_
     clear hs; rintro _ w ⟨b6, rfl, hb, hs⟩; clear hb
     obtain ⟨K7_0, K7_1, hfl7, hs⟩ := PBuilder.split (hs.sel (D := [ow x4 F4]) Q2)
     try simp only [List.cons_append, List.nil_append] at hs
     replace hs := Sat.nilsl (α := TAttr) hs
     replace hs := PNode.join (⟨y.text, ([] : Str), 0, ⟨[], none, 0⟩⟩ : PNode) (hs.sel (D := [ow (⟨[], none, 0⟩ : (Sl TAttr)) []]) Q2) (by first | exact (Ph.old h_y.text hs) | (refine Ph.old ?_ hs; assumption)) (by first | exact (show WfS [] from Nat.zero_le _) | (refine Ph.old ?_ hs; assumption)) (by first | exact (show WfI 0 from ⟨by omega, by omega⟩) | (refine Ph.old ?_ hs; assumption))
     try simp only [List.cons_append, List.nil_append] at hs
     refine WL.r Q0 (Yr.appendE (s := x4.nodes) (F := K7_0) (u := (⟨y.text, ([] : Str), 0, ⟨[], none, 0⟩⟩ : PNode)) (G := []) hs elt61 Q2 Q0 Q0 (hs.box_cells Q1) (by have e9 := congrArg (fun t : TBuilder => t.nodes.length) hx4; simp only [PBuilder.lg, List.length_map] at e9; simp; unfold maxLen; omega) (by have e9 := congrArg (fun t : TBuilder => t.nodes.length) hx4; simp only [PBuilder.lg, List.length_map] at e9; simp; omega)) ?_
     clear hs; rintro _ w ⟨s8, F8, rfl, hl8, hs⟩
     refine WL.p Q0 (Yl.fieldAddr fa64_0 Q0) ?_
     refine WL.s (Yr.storeB hs Q0 Q0 Q0 Q5 Q3 Q0 (by exact szf61)) ?_
     clear hs; rintro _ w hs
     refine WL.nil ?_
     refine At.then_ ?_
     refine WC.seq ?_
     refine WL.p Q0 (Yl.loadAB agg64 Q0 hs Q1 Q0 Q0) ?_
     refine WL.s (Yr.storeB hs Q0 Q0 Q0 Q5 Q3 Q0 (by exact szf64)) ?_
     clear hs; rintro _ w hs
     refine Qa ?_
     refine Qa ?_
     refine WL.next ?_
     refine WC.ret ?_
     refine At.blockret ?_
     refine At.thenret ?_
     refine fin3c rfl agg64 Q0 Q0 Q0 hs Q1 Q0 ?_
     refine Ret.mk hs ?_
     refine ⟨(⟨s8, x4.opn⟩ : PBuilder), ?_, ?_, (PBuilder.join (⟨s8, x4.opn⟩ : PBuilder) (hs.only (D := [ow s8 F8, ow x4.opn K7_1]) Q2)).fresh List.mem_cons_self⟩
     · simp_all [runSaid, countN_lg, colorOf_lg, PBuilder.lg] <;> rfl
     · simp_all [runOut, PBuilder.lg, PNode.lg, inR_true]
    ·
     refine WC.skipn ?_
     refine WC.seq ?_
     refine WL.p Q0 (Yl.loadAB agg64 Q0 hs Q1 Q0 Q0) ?_
     refine WL.s (Yr.storeB hs Q0 Q0 Q0 Q5 Q3 Q0 (by exact szf64)) ?_
     clear hs; rintro _ w hs
     refine Qa ?_
     refine Qa ?_
     refine WL.next ?_
     refine WC.ret ?_
     refine At.blockret ?_
     refine At.thenret ?_
     refine fin3c rfl agg64 Q0 Q0 Q0 hs Q1 Q0 ?_
     refine Ret.mk hs ?_
     refine ⟨x4, ?_, ?_, hs.fresh Q1⟩
     · simp_all [runSaid, countN_lg, colorOf_lg, PBuilder.lg] <;> rfl
     · first
       | (simp_all [runOut, inR_true, inR_false]; done)
       | (rw [runOut, if_neg (by rintro ⟨a1, a2, a3⟩; simp only [inR_true, inR_false, PBuilder.lg, List.length_map] at *; first | omega | simp_all)]; assumption)
   ·
    replace h3 := inR_false.1 h3
    refine WL.skip (d := 26) Q0 Q0 Q0 Q0 ?_
    refine WL.skip (d := 26) Q0 Q0 Q0 Q0 ?_
    refine WL.skip (d := 26) Q0 Q0 Q0 Q0 ?_
    refine WL.p Q0 (Yl.pickF Q0 Q0) ?_
    refine WL.next ?_
    refine WC.condF Q0 ?_
    refine WC.skipn ?_
    refine WC.seq ?_
    refine WL.p Q0 (Yl.loadAB agg64 Q0 hs Q1 Q0 Q0) ?_
    refine WL.s (Yr.storeB hs Q0 Q0 Q0 Q5 Q3 Q0 (by exact szf64)) ?_
    clear hs; rintro _ w hs
    refine Qa ?_
    refine Qa ?_
    refine WL.next ?_
    refine WC.ret ?_
    refine At.blockret ?_
    refine At.thenret ?_
    refine fin3c rfl agg64 Q0 Q0 Q0 hs Q1 Q0 ?_
    refine Ret.mk hs ?_
    refine ⟨x4, ?_, ?_, hs.fresh Q1⟩
    · simp_all [runSaid, countN_lg, colorOf_lg, PBuilder.lg] <;> rfl
    · first
      | (simp_all [runOut, inR_true, inR_false]; done)
      | (rw [runOut, if_neg (by rintro ⟨a1, a2, a3⟩; simp only [inR_true, inR_false, PBuilder.lg, List.length_map] at *; first | omega | simp_all)]; assumption)
  ·
   replace h2 := of_decide_eq_false h2
   refine WC.seq ?_
   refine WL.p Q0 (Yl.eqi Q0 Q0) ?_
   refine Qa ?_
   refine WL.next ?_
   refine WC.condS Q0 (fun h3 => ?_) (fun h3 => ?_)
   ·
    replace h3 := of_decide_eq_true h3
    refine WC.anyn2 (c := box b3 _ _) mixed hs (by repeat (first | exact Ext.here | apply Ext.there)) ?_
    clear hs; intro w hs
    refine WA.p (i := 0) Q0 Q6 Q6 Q6 Q0 (hs.only Q2) (fun w hs => Yl.loadAB agg64 Q0 hs Q1 Q0 Q0) ?_
    refine WA.p (i := 1) Q0 Q6 Q6 Q6 Q0 (hs.only Q2) (fun w hs => Yl.fieldAddr fa87_1 Q0) ?_
    refine WA.p (i := 2) Q0 Q6 Q6 Q6 Q0 (hs.only Q2) (fun w hs => Yl.loadB sca9 Q0 hs Q1 Q0) ?_
    refine WA.p (i := 3) Q0 Q6 Q6 Q6 Q0 (hs.only Q2) (fun w hs => Yl.cat Q0 Q0 (by simp only [List.length_append, List.length_cons, List.length_nil] at *; omega)) ?_
    refine WA.p (i := 4) Q0 Q6 Q6 Q6 Q0 (hs.only Q2) (fun w hs => Yl.cat Q0 Q0 (by simp only [List.length_append, List.length_cons, List.length_nil] at *; omega)) ?_
    refine WA.p (i := 5) Q0 Q6 Q6 Q6 Q0 (hs.only Q2) (fun w hs => Yl.loadAB agg64 Q0 hs Q1 Q0 Q0) ?_
    refine WA.p (i := 6) Q0 Q6 Q6 Q6 Q0 (hs.only Q2) (fun w hs => Yl.fieldAddr fa87_1 Q0) ?_
    refine WA.p (i := 7) Q0 Q6 Q6 Q6 Q0 (hs.only Q2) (fun w hs => Yl.loadB sca9 Q0 hs Q1 Q0) ?_
    refine WA.callp2 (i := 8) hs (fun _ hs => hs.only Q2) Q6 Q0 Q0 (Yc.func Q0 fn135) (c_impl_CountName _ _ _ (Ph.old h_b hs)) ?_
    clear hs; intro w hs
    refine WA.callp2 (i := 9) hs (fun _ hs => hs.only Q2) Q6 Q0 Q0 (Yc.func Q0 fn112) (c_impl_FormatInt _ _ (countN_wf _ h_b.nodes.lt) (by first | assumption | exact Sat.tab hs (by assumption))) ?_
    clear hs; intro w hs
    refine WA.p (i := 10) Q0 Q6 Q6 Q6 Q0 (hs.only Q2) (fun w hs => Yl.cat Q0 Q0 (by simp only [List.length_append, List.length_cons, List.length_nil] at *; omega)) ?_
    refine WA.s (i := 11) Q6 Q0 (Yr.storeB hs Q0 Q0 Q0 Q5 Q3 Q0 (by exact szf64)) (by rintro _ w hs; exact hs.only Q2) ?_
    clear hs; rintro _ w hs
    refine WA.p (i := 12) Q0 Q6 Q6 Q6 Q0 (hs.only Q2) (fun w hs => Yl.assign Q0) ?_
    refine WA.p (i := 13) Q0 Q6 Q6 Q6 Q0 (hs.only Q2) (fun w hs => Yl.assign Q0) ?_
    refine WA.donen Q6 ?_
    refine WC.ret ?_
    refine At.blockret ?_
    refine At.thenret ?_
    refine fin3c rfl agg64 Q0 Q0 Q0 hs Q1 Q0 ?_
    refine Ret.mk hs ?_
    refine ⟨x4, ?_, ?_, hs.fresh Q1⟩
    · simp_all [runSaid, countN_lg, colorOf_lg, PBuilder.lg] <;> rfl
    · first
      | (simp_all [runOut, inR_true, inR_false]; done)
      | (rw [runOut, if_neg (by rintro ⟨a1, a2, a3⟩; simp only [inR_true, inR_false, PBuilder.lg, List.length_map] at *; first | omega | simp_all)]; assumption)
   ·
    replace h3 := of_decide_eq_false h3
    refine WC.seq ?_
    refine WL.p Q0 (Yl.eqi Q0 Q0) ?_
    refine Qa ?_
    refine WL.next ?_
    refine WC.condS Q0 (fun h4 => ?_) (fun h4 => ?_)
    ·
     replace h4 := of_decide_eq_true h4
     refine WC.anyn2 (c := box b3 _ _) mixed hs (by repeat (first | exact Ext.here | apply Ext.there)) ?_
     clear hs; intro w hs
     refine WA.p (i := 0) Q0 Q6 Q6 Q6 Q0 (hs.only Q2) (fun w hs => Yl.loadAB agg64 Q0 hs Q1 Q0 Q0) ?_
     refine WA.p (i := 1) Q0 Q6 Q6 Q6 Q0 (hs.only Q2) (fun w hs => Yl.fieldAddr fa87_1 Q0) ?_
     refine WA.p (i := 2) Q0 Q6 Q6 Q6 Q0 (hs.only Q2) (fun w hs => Yl.loadB sca9 Q0 hs Q1 Q0) ?_
     refine WA.p (i := 3) Q0 Q6 Q6 Q6 Q0 (hs.only Q2) (fun w hs => Yl.cat Q0 Q0 (by simp only [List.length_append, List.length_cons, List.length_nil] at *; omega)) ?_
     refine WA.p (i := 4) Q0 Q6 Q6 Q6 Q0 (hs.only Q2) (fun w hs => Yl.cat Q0 Q0 (by simp only [List.length_append, List.length_cons, List.length_nil] at *; omega)) ?_
     refine WA.p (i := 5) Q0 Q6 Q6 Q6 Q0 (hs.only Q2) (fun w hs => Yl.move Q0) ?_
     refine WA.p (i := 6) Q0 Q6 Q6 Q6 Q0 (hs.only Q2) (fun w hs => Yl.fieldAddr fa87_1 Q0) ?_
     refine WA.p (i := 7) Q0 Q6 Q6 Q6 Q0 (hs.only Q2) (fun w hs => Yl.loadB sca9 Q0 hs Q1 Q0) ?_
     refine WA.callp2 (i := 8) hs (fun _ hs => hs.only Q2) Q6 Q0 Q0 (Yc.func Q0 fn31) (c_impl_ColorOf _ _ _ (Ph.old h_sheets hs)) ?_
     clear hs; intro w hs
     refine WA.callp2 (i := 9) hs (fun _ hs => hs.only Q2) Q6 Q0 Q0 (Yc.func Q0 fn112) (c_impl_FormatInt _ _ (colorOf_wf (fun s hs9 x hx9 => (Sl.Ok.elems (h_sheets.elems s hs9).rules x hx9).color)) (by first | assumption | exact Sat.tab hs (by assumption))) ?_
     clear hs; intro w hs
     refine WA.p (i := 10) Q0 Q6 Q6 Q6 Q0 (hs.only Q2) (fun w hs => Yl.cat Q0 Q0 (by simp only [List.length_append, List.length_cons, List.length_nil] at *; omega)) ?_
     refine WA.s (i := 11) Q6 Q0 (Yr.storeB hs Q0 Q0 Q0 Q5 Q3 Q0 (by exact szf64)) (by rintro _ w hs; exact hs.only Q2) ?_
     clear hs; rintro _ w hs
     refine WA.p (i := 12) Q0 Q6 Q6 Q6 Q0 (hs.only Q2) (fun w hs => Yl.assign Q0) ?_
     refine WA.p (i := 13) Q0 Q6 Q6 Q6 Q0 (hs.only Q2) (fun w hs => Yl.assign Q0) ?_
     refine WA.donen Q6 ?_
     refine WC.ret ?_
     refine At.blockret ?_
     refine At.thenret ?_
     refine fin3c rfl agg64 Q0 Q0 Q0 hs Q1 Q0 ?_
     refine Ret.mk hs ?_
     refine ⟨x4, ?_, ?_, hs.fresh Q1⟩
     · simp_all [runSaid, countN_lg, colorOf_lg, PBuilder.lg] <;> rfl
     · first
       | (simp_all [runOut, inR_true, inR_false]; done)
       | (rw [runOut, if_neg (by rintro ⟨a1, a2, a3⟩; simp only [inR_true, inR_false, PBuilder.lg, List.length_map] at *; first | omega | simp_all)]; assumption)
    ·
     replace h4 := of_decide_eq_false h4
     refine WC.seq ?_
     refine WL.p Q0 (Yl.eqi Q0 Q0) ?_
     refine Qa ?_
     refine WL.next ?_
     refine WC.condS Q0 (fun h5 => ?_) (fun h5 => ?_)
     ·
      replace h5 := of_decide_eq_true h5
      refine WC.anyn2 (c := box b3 _ _) mixed hs (by repeat (first | exact Ext.here | apply Ext.there)) ?_
      clear hs; intro w hs
      refine WA.p (i := 0) Q0 Q6 Q6 Q6 Q0 (hs.only Q2) (fun w hs => Yl.loadAB agg64 Q0 hs Q1 Q0 Q0) ?_
      refine WA.p (i := 1) Q0 Q6 Q6 Q6 Q0 (hs.only Q2) (fun w hs => Yl.fieldAddr fa87_1 Q0) ?_
      refine WA.p (i := 2) Q0 Q6 Q6 Q6 Q0 (hs.only Q2) (fun w hs => Yl.loadB sca9 Q0 hs Q1 Q0) ?_
      refine WA.p (i := 3) Q0 Q6 Q6 Q6 Q0 (hs.only Q2) (fun w hs => Yl.cat Q0 Q0 (by simp only [List.length_append, List.length_cons, List.length_nil] at *; omega)) ?_
      refine WA.s (i := 4) Q6 Q0 (Yr.storeB hs Q0 Q0 Q0 Q5 Q3 Q0 (by exact szf64)) (by rintro _ w hs; exact hs.only Q2) ?_
      clear hs; rintro _ w hs
      refine WA.p (i := 5) Q0 Q6 Q6 Q6 Q0 (hs.only Q2) (fun w hs => Yl.assign Q0) ?_
      refine WA.p (i := 6) Q0 Q6 Q6 Q6 Q0 (hs.only Q2) (fun w hs => Yl.assign Q0) ?_
      refine WA.donen Q6 ?_
      refine WC.ret ?_
      refine At.blockret ?_
      refine At.thenret ?_
      refine fin3c rfl agg64 Q0 Q0 Q0 hs Q1 Q0 ?_
      refine Ret.mk hs ?_
      refine ⟨x4, ?_, ?_, hs.fresh Q1⟩
      · simp_all [runSaid, countN_lg, colorOf_lg, PBuilder.lg] <;> rfl
      · first
        | (simp_all [runOut, inR_true, inR_false]; done)
        | (rw [runOut, if_neg (by rintro ⟨a1, a2, a3⟩; simp only [inR_true, inR_false, PBuilder.lg, List.length_map] at *; first | omega | simp_all)]; assumption)
     ·
      replace h5 := of_decide_eq_false h5
      refine WC.skip ?_
      refine At.blocknormal ?_
      refine At.then_ ?_
      refine WC.seq ?_
      refine WL.p Q0 (Yl.loadAB agg64 Q0 hs Q1 Q0 Q0) ?_
      refine WL.s (Yr.storeB hs Q0 Q0 Q0 Q5 Q3 Q0 (by exact szf64)) ?_
      clear hs; rintro _ w hs
      refine Qa ?_
      refine Qa ?_
      refine WL.next ?_
      refine WC.ret ?_
      refine fin3c rfl agg64 Q0 Q0 Q0 hs Q1 Q0 ?_
      refine Ret.mk hs ?_
      refine ⟨x4, ?_, ?_, hs.fresh Q1⟩
      · simp_all [runSaid, countN_lg, colorOf_lg, PBuilder.lg] <;> rfl
      · first
        | (simp_all [runOut, inR_true, inR_false]; done)
        | (rw [runOut, if_neg (by rintro ⟨a1, a2, a3⟩; simp only [inR_true, inR_false, PBuilder.lg, List.length_map] at *; first | omega | simp_all)]; assumption)

set_option maxRecDepth 20000 in
theorem c_impl_RunScript (b : PBuilder) (sheets : (Sl PSheet)) (l : (Sl TLine)) (w : World) (h_b : Ph.ok w b) (h_sheets : Ph.ok w sheets) (h_l : Ph.ok w l) (hbb : b.lg.size + lsz TLine.size l.l ≤ 1048576) (ht_ : Tab10 Tryz.prog w) : Calls Tryz.prog 42 [.agg #[Sl.v b.nodes, Sl.v b.opn], Sl.v sheets, Sl.v l].toArray w (Ret w (fun v w' => ∃ (xb : PBuilder) (xw : Str) (xl : Sl Str), v = .tuple #[.agg (Ph.enc xb).toArray, S xw, xl.v] ∧ (Ph.ok w' xw) ∧ (xb.lg = (runAll mkB (sheets.l.map PSheet.lg) b.lg l.l).1 ∧ xw = (runAll mkB (sheets.l.map PSheet.lg) b.lg l.l).2.1 ∧ xl.l = (runAll mkB (sheets.l.map PSheet.lg) b.lg l.l).2.2) ∧ Fresh2 w xb xl w')) := by
 have hw := h_l.lt
 have hll : l.l.length ≤ 1048576 := by simp only [lsz] at hbb; omega
 refine enterN 48 Tryz.func42 rfl rfl rfl ?_
 have hs := Sat.start w
 refine WC.seq ?_
 refine WL.r Q0 (Yr.box hs Q0 Q0) ?_
 clear hs; rintro _ w ⟨b1, rfl, hb, hs⟩; clear hb
 refine WL.r Q0 (Yr.alloc hs zt64) ?_
 clear hs; rintro _ w ⟨b2, rfl, hb, hs⟩; clear hb
 refine Qa ?_
 refine Qa ?_
 refine WL.next ?_
 refine WC.seq ?_
 refine WL.p Q0 (Yl.loadAB agg64 Q0 hs Q1 Q0 Q0) ?_
 refine WL.call hs Q0 (Yc.func Q0 fn133) (c_impl_copyBuilder _ _ (Ph.old h_b hs) Q7) ?_
 have hs0 := hs; clear hs; intro v w hb hR hs; clear hs
 obtain ⟨x3, rfl, hx3, hf3⟩ := hR
 obtain ⟨F3, hs⟩ := hf3.sat hs0 hb; clear hs0 hf3
 refine WL.r Q0 (Yr.alloc hs zt64) ?_
 clear hs; rintro _ w ⟨b4, rfl, hb, hs⟩; clear hb
 refine WL.s (Yr.storeB hs Q0 Q0 Q0 Q5 Q3 Q0 (by exact szf64)) ?_
 clear hs; rintro _ w hs
 refine WL.next ?_
 refine WC.seq ?_
 refine Qa ?_
 refine WL.next ?_
 refine WC.seq ?_
 refine WL.r Q0 (Yr.buildSlice hs sll34 Q0 Q0 Q0 Q4 Q0) ?_
 clear hs; rintro _ w ⟨b5, rfl, hb, hs⟩; clear hb
 refine Qa ?_
 refine WL.next ?_
 refine WC.seq' ?_
 refine WC.seq ?_
 refine Qm ?_
 refine WL.p Q0 (Yl.len_sl slu79 Q0) ?_
 refine Qm ?_
 refine WL.next ?_
 refine WC.block ?_
 replace hs := Sat.boxow (l := ([] : List Str)) (hs.sel (D := [box b5 _ _]) Q2) rfl rfl (by simp) (ownL_mk_flat (by simp))
 try simp only [List.cons_append, List.nil_append] at hs
 refine WC.loopC (ι := Nat × PBuilder × List Nat × Str × Sl Str × List Nat) (fun ⟨k, q, F, W, s, G⟩ => l.l.length - k) (fun ⟨k, q, F, W, s, G⟩ => [(22, I (k : Int)), (10, S W), (11, s.v)]) (fun ⟨k, q, F, W, s, G⟩ => [box b4 64 [Sl.v q.nodes, Sl.v q.opn], ow q F, ow s G]) (fun ⟨k, q, F, W, s, G⟩ => k ≤ l.l.length ∧ q.lg.size ≤ b.lg.size + lsz TLine.size (l.l.take k) ∧ W.length ≤ lsz TLine.size (l.l.take k) ∧ s.l.length ≤ k ∧ runAll mkB (sheets.l.map PSheet.lg) b.lg l.l = ((runAll mkB (sheets.l.map PSheet.lg) q.lg (l.l.drop k)).1, W ++ (runAll mkB (sheets.l.map PSheet.lg) q.lg (l.l.drop k)).2.1, s.l ++ (runAll mkB (sheets.l.map PSheet.lg) q.lg (l.l.drop k)).2.2)) [(0, _), (1, _), (2, _), (3, _), (6, _), (7, _), (8, _), (9, _), (20, _), (21, _)] (0, x3, F3, [], ⟨[], some ⟨b5, 0, none⟩, 0⟩, [b5]) (hs.sel (D := [box b4 64 _, ow x3 F3, ow (⟨[], some ⟨b5, 0, none⟩, 0⟩ : Sl Str) [b5]]) Q2) ⟨by rfl, by rfl, by rfl, by rfl, by rfl, by rfl, by rfl, by rfl, by rfl, by rfl, trivial⟩ ⟨by rfl, by rfl, by rfl, trivial⟩ ?_ ?_
 ·
  refine ⟨Nat.zero_le _, by rw [hx3]; exact Nat.le_add_right _ _, Nat.zero_le _, Nat.zero_le _, ?_⟩
  rw [hx3]; rfl
 clear hs; rintro ⟨k, q, F, W, s, G⟩ w ⟨hJ1, hJ2, hJ3, hJ4, hJ5⟩ hs
 simp only [List.cons_append, List.nil_append] at hs
 refine WC.seq ?_
 refine WL.p Q0 (Yl.lss Q0 Q0) ?_
 refine WL.next ?_
 refine WC.seq' ?_
 refine WC.condS Q0 (fun h1 => ?_) (fun h1 => ?_)
 ·
  replace h1 := of_decide_eq_true h1
  obtain ⟨d, hd⟩ := exists_get (l := l.l) (k := k) Q7
  refine WC.skipn ?_
  refine WC.seq' ?_
  refine WC.block ?_
  refine WC.seq ?_
  refine WL.p Q0 (Yl.indexAddr slt79 Q0 Q0 (Ph.old h_l hs) Q0 (hd)) ?_
  refine WL.p Q0 (Yl.loadA agg87 Q0 (Sl.Ok.at_ (Ph.old h_l hs) (by assumption)).2 Q0) ?_
  refine WL.r Q0 (Yr.alloc hs zt87) ?_
  clear hs; rintro _ w ⟨b6, rfl, hb, hs⟩; clear hb
  refine WL.s (Yr.storeB hs Q0 Q0 Q0 Q5 Q3 Q0 (by exact szf87)) ?_
  clear hs; rintro _ w hs
  refine WL.next ?_
  refine WC.seq ?_
  refine WL.p Q0 (Yl.loadAB agg64 Q0 hs Q1 Q0 Q0) ?_
  refine Qm ?_
  refine WL.p Q0 (Yl.loadAB agg87 Q0 hs Q1 Q0 Q0) ?_
  refine WL.call hs Q0 (Yc.func Q0 fn43) (c_impl_RunLine _ _ _ _ ⟨(hs.okow (x := q) (F := F) Q1).nodes, (hs.okow (x := q) (F := F) Q1).opn⟩ (Ph.old h_sheets hs) (Ph.old (Sl.Ok.elem h_l hd) hs) (by have := lsz_take TLine.size l.l k; omega) (by have h9 := lsum_le (f := TLine.size) (List.mem_of_getElem? hd); simp only [lsz, TLine.size] at h9 hbb ⊢; omega) (by first | assumption | exact Sat.tab hs (by assumption))) ?_
  have hs0 := hs; clear hs; intro v w hb hR hs; clear hs
  obtain ⟨x7, rfl, hx7, hf7⟩ := hR
  obtain ⟨F7, hs⟩ := hf7.sat hs0 hb; clear hs0 hf7
  refine Qm ?_
  refine WL.p Q0 (Yl.extract Q0 Q0) ?_
  refine WL.p Q0 (Yl.extract Q0 Q0) ?_
  refine WL.p Q0 (Yl.extract Q0 Q0) ?_
  refine WL.r Q0 (Yr.alloc hs zt64) ?_
  clear hs; rintro _ w ⟨b8, rfl, hb, hs⟩; clear hb
  refine WL.s (Yr.storeB hs Q0 Q0 Q0 Q5 Q3 Q0 (by exact szf64)) ?_
  clear hs; rintro _ w hs
  refine Qa ?_
  refine Qa ?_
  refine WL.next ?_
  refine WC.seq ?_
  refine WL.p Q0 (Yl.loadAB agg64 Q0 hs Q1 Q0 Q0) ?_
  refine WL.s (Yr.storeB hs Q0 Q0 Q0 Q5 Q3 Q0 (by exact szf64)) ?_
  clear hs; rintro _ w hs
  refine WL.next ?_
  refine WC.seq ?_
  refine Qm ?_
  refine Qm ?_
  refine WL.p Q0 (Yl.cat Q0 Q0 (by exact wrote_len (lsz_take TLine.size l.l k) hJ3 hbb (List.mem_of_getElem? hd))) ?_
  refine Qa ?_
  refine WL.next ?_
  refine WC.seq ?_
  refine Qm ?_
  refine WL.p Q0 (Yl.nes Q0 Q0) ?_
  refine WL.next ?_
  refine WC.condS Q0 (fun h2 => ?_) (fun h2 => ?_)
  ·
   replace h2 := not_eq_true h2
   replace h2 := of_decide_eq_false h2
   refine WC.region ?_
   refine Qm ?_
   refine Qm ?_
   refine WL.r Q0 (Yr.buildSlice hs sll34 Q0 Q0 Q0 Q4 Q0) ?_
   clear hs; rintro _ w ⟨b9, rfl, hb, hs⟩; clear hb
   refine WL.r Q0 (Yr.append (s := s) (F := G) hs elt34 Q2 Q0 Q0 rfl (xs := [runSaid q.lg (sheets.l.map PSheet.lg) d]) (hs.box_cells Q1) (by intro x hx; obtain rfl := List.mem_singleton.1 hx; exact runSaid_wf (hs.okow (x := q) (F := F) Q1) (Ph.old h_sheets hs) (lineText_le hbb (List.mem_of_getElem? hd))) (by unfold maxLen; simp only [List.length_singleton]; omega) (by simp only [List.length_singleton]; omega)) ?_
   clear hs; rintro _ w ⟨s10, F10, rfl, hl10, hs⟩
   refine Qa ?_
   refine WL.nil ?_
   refine At.blocknormal ?_
   refine At.then_ ?_
   refine WC.region ?_
   refine WL.p Q0 (Yl.add Q0 Q0 Q7) ?_
   refine Qm ?_
   refine WL.nil ?_
   refine At.roundC (k + 1, x7, _, _, s10, F10) (hs.only Q2) ⟨by rfl, by rfl, by rfl, by rfl, by rfl, by rfl, by rfl, by rfl, by rfl, by rfl, trivial⟩ ⟨by rfl, by rfl, by rfl, trivial⟩ ?_ ?_
   ·
    show l.l.length - (k + 1) < l.l.length - k
    omega
   ·
    have h9 := run_next hd hJ5
    rw [saidOf_ne (by assumption)] at h9
    refine ⟨by omega, run_size hx7 hJ2 hd, run_wrote hJ3 hd, by rw [hl10, List.length_append, List.length_singleton]; omega, ?_⟩
    rw [hx7, hl10]; exact h9
  ·
   replace h2 := not_eq_false h2
   replace h2 := of_decide_eq_true h2
   refine WC.skip ?_
   refine At.blocknormal ?_
   refine At.then_ ?_
   refine WC.region ?_
   refine WL.p Q0 (Yl.add Q0 Q0 Q7) ?_
   refine Qm ?_
   refine WL.nil ?_
   refine At.roundC (k + 1, x7, _, _, s, G) (hs.only Q2) ⟨by rfl, by rfl, by rfl, by rfl, by rfl, by rfl, by rfl, by rfl, by rfl, by rfl, trivial⟩ ⟨by rfl, by rfl, by rfl, trivial⟩ ?_ ?_
   ·
    show l.l.length - (k + 1) < l.l.length - k
    omega
   ·
    have h9 := run_next hd hJ5
    rw [saidOf_nil (by assumption), List.append_nil] at h9
    refine ⟨by omega, run_size hx7 hJ2 hd, run_wrote hJ3 hd, by omega, ?_⟩
    rw [hx7]; exact h9
 ·
  replace h1 := of_decide_eq_false h1
  refine WC.exit ?_
  refine At.thenexit ?_
  refine At.thenexit ?_
  refine At.blockexit ?_
  refine At.then_ ?_
  refine WC.seq ?_
  refine WL.p Q0 (Yl.loadAB agg64 Q0 hs Q1 Q0 Q0) ?_
  refine Qm ?_
  refine Qm ?_
  refine WL.s (Yr.storeB hs Q0 Q0 Q0 Q5 Q3 Q0 (by exact szf64)) ?_
  clear hs; rintro _ w hs
  refine Qa ?_
  refine Qa ?_
  refine WL.next ?_
  refine WC.ret ?_
  refine fin3c rfl agg64 Q0 Q0 Q0 hs Q1 Q0 ?_
  have h8 := lsz_take TLine.size l.l k
  have hWl : W.length ≤ 1048576 := by omega
  refine Ret.mk hs ?_
  refine ⟨q, _, s, rfl, (by first | trivial | assumption | exact Flat.any (by assumption) | exact ⟨by omega, by omega⟩ | (show WfS _; unfold WfS; omega) | (show WfS _; unfold WfS; simp only [List.length_append, List.length_cons, List.length_nil] at *; omega) | (refine Ph.old ?_ hs; assumption)), ?_, ?_⟩
  ·
   have h9 := run_end Q7 hJ5
   rw [h9]; exact ⟨rfl, rfl, rfl⟩
  ·
   exact hs.fresh2 (x := q) (F := F) (y := s) (G := G) Q2

theorem c_laws_szAttr (a : TAttr) (left : Int) (w : World) (h_a : Ph.ok w a) (hl0 : 0 ≤ left) (hl1 : left ≤ 1048576) : Calls Tryz.prog 331 [.agg #[S a.name, S a.value], I left].toArray w (RetP w (I (lessN left a.size))) := by
 have hb0 : a.name.length ≤ 9223372036854775807 := h_a.name
 have hb1 : a.value.length ≤ 9223372036854775807 := h_a.value
 refine enterN 20 Tryz.func331 rfl rfl rfl ?_
 have hs := Sat.start w
 refine WC.seq ?_
 refine WL.r Q0 (Yr.box hs Q0 Q0) ?_
 clear hs; rintro _ w ⟨b1, rfl, hb, hs⟩; clear hb
 refine Qa ?_
 refine WL.next ?_
 refine WC.seq ?_
 refine Qm ?_
 refine WL.p Q0 (Yl.fieldAddr fa359_0 Q0) ?_
 refine WL.p Q0 (Yl.loadB sca9 Q0 hs Q1 Q0) ?_
 refine WL.p Q0 (Yl.len_str str9 Q0) ?_
 refine WL.p Q0 (Yl.sub_ Q0 Q0 Q7) ?_
 refine Qa ?_
 refine WL.next ?_
 refine WC.seq' ?_
 refine WC.seq ?_
 refine Qm ?_
 refine WL.p Q0 (Yl.lss Q0 Q0) ?_
 refine WL.next ?_
 refine WC.condS Q0 (fun h1 => ?_) (fun h1 => ?_)
 ·
  replace h1 := of_decide_eq_true h1
  refine WC.seq ?_
  refine Qa ?_
  refine WL.next ?_
  refine WC.ret ?_
  refine At.thenret ?_
  refine fin1' rfl Q0 ?_
  refine RetP.mk hs ?_
  first
   | (rw [lessN_lt (left := left) (n := a.size) (by simp only [TAttr.size]; omega)]; done)
   | (rw [lessN_ge (left := left) (n := a.size) (by simp only [TAttr.size]; omega)]; try exact congrArg I (by simp only [TAttr.size] <;> omega))
 ·
  replace h1 := of_decide_eq_false h1
  refine WC.skipn ?_
  refine WC.seq ?_
  refine Qm ?_
  refine WL.p Q0 (Yl.fieldAddr fa359_1 Q0) ?_
  refine WL.p Q0 (Yl.loadB sca9 Q0 hs Q1 Q0) ?_
  refine WL.p Q0 (Yl.len_str str9 Q0) ?_
  refine WL.p Q0 (Yl.sub_ Q0 Q0 Q7) ?_
  refine Qa ?_
  refine WL.next ?_
  refine WC.seq' ?_
  refine WC.seq ?_
  refine Qm ?_
  refine WL.p Q0 (Yl.lss Q0 Q0) ?_
  refine WL.next ?_
  refine WC.condS Q0 (fun h2 => ?_) (fun h2 => ?_)
  ·
   replace h2 := of_decide_eq_true h2
   refine WC.seq ?_
   refine Qa ?_
   refine WL.next ?_
   refine WC.ret ?_
   refine At.thenret ?_
   refine fin1' rfl Q0 ?_
   refine RetP.mk hs ?_
   first
    | (rw [lessN_lt (left := left) (n := a.size) (by simp only [TAttr.size]; omega)]; done)
    | (rw [lessN_ge (left := left) (n := a.size) (by simp only [TAttr.size]; omega)]; try exact congrArg I (by simp only [TAttr.size] <;> omega))
  ·
   replace h2 := of_decide_eq_false h2
   refine WC.skipn ?_
   refine WC.seq ?_
   refine Qm ?_
   refine Qa ?_
   refine WL.next ?_
   refine WC.ret ?_
   refine fin1' rfl Q0 ?_
   refine RetP.mk hs ?_
   first
    | (rw [lessN_lt (left := left) (n := a.size) (by simp only [TAttr.size]; omega)]; done)
    | (rw [lessN_ge (left := left) (n := a.size) (by simp only [TAttr.size]; omega)]; try exact congrArg I (by simp only [TAttr.size] <;> omega))

theorem c_laws_szAttrS (a : (Sl TAttr)) (left : Int) (w : World) (h_a : Ph.ok w a) (hl0 : 0 ≤ left) (hl1 : left ≤ 1048576) : Calls Tryz.prog 280 [Sl.v a, I left].toArray w (RetP w (I (lessN left (lsz TAttr.size a.l)))) := by
 have hw := h_a.lt
 refine enterN 27 Tryz.func280 rfl rfl rfl ?_
 have hs := Sat.start w
 refine WC.seq ?_
 refine Qa ?_
 refine WL.next ?_
 refine WC.seq ?_
 refine Qm ?_
 refine Qm ?_
 refine WL.p Q0 (Yl.len_sl slu258 Q0) ?_
 refine WL.p Q0 (Yl.sub_ Q0 Q0 Q7) ?_
 refine Qa ?_
 refine WL.next ?_
 refine WC.seq' ?_
 refine WC.seq ?_
 refine Qm ?_
 refine WL.p Q0 (Yl.lss Q0 Q0) ?_
 refine WL.next ?_
 refine WC.condS Q0 (fun h1 => ?_) (fun h1 => ?_)
 ·
  replace h1 := of_decide_eq_true h1
  refine WC.seq ?_
  refine Qa ?_
  refine WL.next ?_
  refine WC.ret ?_
  refine At.thenret ?_
  refine fin1' rfl Q0 ?_
  refine RetP.mk hs ?_
  rw [lessN_lt (by simp only [lsz]; omega)]
 ·
  replace h1 := of_decide_eq_false h1
  refine WC.skipn ?_
  refine WC.seq' ?_
  refine WC.seq ?_
  refine Qa ?_
  refine WL.next ?_
  refine WC.block ?_
  refine WC.loopC (ι := Nat × Int) (fun ⟨k, l⟩ => a.l.length - k) (fun ⟨k, l⟩ => [(5, I (k : Int)), (1, I l)]) (fun _ => []) (fun ⟨k, l⟩ => 0 ≤ l ∧ l ≤ 1048576 ∧ lessN l (lsum TAttr.size (a.l.drop k)) = lessN left (lsz TAttr.size a.l)) [(0, _), (11, _)] (0, left - (a.l.length : Int)) (hs) ⟨by rfl, by rfl, trivial⟩ ⟨by rfl, by rfl, trivial⟩ ?_ ?_
  ·
   refine ⟨by omega, by omega, ?_⟩
   rw [List.drop_zero, lsz, lessN_sub Q7]
  clear hs; rintro ⟨k, l⟩ w ⟨hJ1, hJ2, hJ3⟩ hs
  simp only [List.nil_append] at hs
  refine WC.seq' ?_
  refine WC.seq ?_
  refine Qm ?_
  refine Qm ?_
  refine WL.p Q0 (Yl.len_sl slu258 Q0) ?_
  refine WL.p Q0 (Yl.lss Q0 Q0) ?_
  refine WL.next ?_
  refine WC.condS Q0 (fun h2 => ?_) (fun h2 => ?_)
  ·
   replace h2 := of_decide_eq_true h2
   obtain ⟨d, hd⟩ := exists_get (l := a.l) (k := k) Q7
   rw [drop_cons hd, lsum_cons] at hJ3
   refine WC.skipn ?_
   refine WC.seq' ?_
   refine WC.block ?_
   refine WC.seq ?_
   refine Qm ?_
   refine Qm ?_
   refine WL.p Q0 (Yl.indexAddr slt258 Q0 Q0 (Ph.old h_a hs) Q0 (hd)) ?_
   refine WL.p Q0 (Yl.loadA agg359 Q0 (Sl.Ok.at_ (Ph.old h_a hs) (by assumption)).2 Q0) ?_
   refine Qm ?_
   refine WL.callp hs Q0 (Yc.func Q0 fn331) (c_laws_szAttr _ _ _ (Ph.old (Sl.Ok.elem h_a hd) hs) Q10 Q10) ?_
   clear hs; intro w hs
   refine Qa ?_
   refine WL.next ?_
   refine WC.seq ?_
   refine Qm ?_
   refine WL.p Q0 (Yl.lss Q0 Q0) ?_
   refine WL.next ?_
   refine WC.condS Q0 (fun h3 => ?_) (fun h3 => ?_)
   ·
    replace h3 := lessN_neg (of_decide_eq_true h3)
    refine WC.seq ?_
    refine Qa ?_
    refine WL.next ?_
    refine WC.ret ?_
    refine At.blockret ?_
    refine At.thenret ?_
    refine At.thenret ?_
    refine At.blockret ?_
    refine At.thenret ?_
    refine fin1' rfl Q0 ?_
    refine RetP.mk hs ?_
    rw [← hJ3, lessN_add_lt h3]
   ·
    replace h3 := lessN_nn Q7 (of_decide_eq_false h3)
    refine WC.skip ?_
    refine At.blocknormal ?_
    refine At.then_ ?_
    refine WC.region ?_
    refine Qm ?_
    refine WL.p Q0 (Yl.add Q0 Q0 Q7) ?_
    refine Qa ?_
    refine WL.nil ?_
    refine At.roundC (k + 1, lessN l (TAttr.size d)) (hs.only Q2) ⟨by rfl, by rfl, trivial⟩ ⟨by rfl, by rfl, trivial⟩ ?_ ?_
    ·
     show a.l.length - (k + 1) < a.l.length - k
     omega
    ·
     simp only [h3.2]
     refine ⟨by omega, by omega, ?_⟩
     rw [lessN_sub Q7, hJ3]
  ·
   replace h2 := of_decide_eq_false h2
   rw [drop_out (l := a.l) Q7, lsum_nil] at hJ3
   refine WC.exit ?_
   refine At.thenexit ?_
   refine At.thenexit ?_
   refine At.blockexit ?_
   refine At.then_ ?_
   refine WC.seq ?_
   refine Qm ?_
   refine Qa ?_
   refine WL.next ?_
   refine WC.ret ?_
   refine fin1' rfl Q0 ?_
   refine RetP.mk hs ?_
   rw [← hJ3, lessN_zero hJ1]

theorem c_laws_szNode (a : PNode) (left : Int) (w : World) (h_a : Ph.ok w a) (hl0 : 0 ≤ left) (hl1 : left ≤ 1048576) : Calls Tryz.prog 219 [.agg #[S a.name, S a.text, I a.parent, Sl.v a.attrs], I left].toArray w (RetP w (I (lessN left a.lg.size))) := by
 have hb0 : a.name.length ≤ 9223372036854775807 := h_a.name
 have hb1 : a.text.length ≤ 9223372036854775807 := h_a.text
 refine enterN 26 Tryz.func219 rfl rfl rfl ?_
 have hs := Sat.start w
 refine WC.seq ?_
 refine WL.r Q0 (Yr.box hs Q0 Q0) ?_
 clear hs; rintro _ w ⟨b1, rfl, hb, hs⟩; clear hb
 refine Qa ?_
 refine WL.next ?_
 refine WC.seq ?_
 refine Qm ?_
 refine WL.p Q0 (Yl.fieldAddr fa260_0 Q0) ?_
 refine WL.p Q0 (Yl.loadB sca9 Q0 hs Q1 Q0) ?_
 refine WL.p Q0 (Yl.len_str str9 Q0) ?_
 refine WL.p Q0 (Yl.sub_ Q0 Q0 Q7) ?_
 refine Qa ?_
 refine WL.next ?_
 refine WC.seq' ?_
 refine WC.seq ?_
 refine Qm ?_
 refine WL.p Q0 (Yl.lss Q0 Q0) ?_
 refine WL.next ?_
 refine WC.condS Q0 (fun h1 => ?_) (fun h1 => ?_)
 ·
  replace h1 := of_decide_eq_true h1
  refine WC.seq ?_
  refine Qa ?_
  refine WL.next ?_
  refine WC.ret ?_
  refine At.thenret ?_
  refine fin1' rfl Q0 ?_
  refine RetP.mk hs ?_
  first
   | (rw [lessN_lt (left := left) (n := a.lg.size) (by simp only [TNode.size]; omega)]; done)
   | (rw [lessN_ge (left := left) (n := a.lg.size) (by simp only [TNode.size]; omega)]; try exact congrArg I (by simp only [TNode.size] <;> omega))
 ·
  replace h1 := of_decide_eq_false h1
  refine WC.skipn ?_
  refine WC.seq ?_
  refine Qm ?_
  refine WL.p Q0 (Yl.fieldAddr fa260_1 Q0) ?_
  refine WL.p Q0 (Yl.loadB sca9 Q0 hs Q1 Q0) ?_
  refine WL.p Q0 (Yl.len_str str9 Q0) ?_
  refine WL.p Q0 (Yl.sub_ Q0 Q0 Q7) ?_
  refine Qa ?_
  refine WL.next ?_
  refine WC.seq' ?_
  refine WC.seq ?_
  refine Qm ?_
  refine WL.p Q0 (Yl.lss Q0 Q0) ?_
  refine WL.next ?_
  refine WC.condS Q0 (fun h2 => ?_) (fun h2 => ?_)
  ·
   replace h2 := of_decide_eq_true h2
   refine WC.seq ?_
   refine Qa ?_
   refine WL.next ?_
   refine WC.ret ?_
   refine At.thenret ?_
   refine fin1' rfl Q0 ?_
   refine RetP.mk hs ?_
   first
    | (rw [lessN_lt (left := left) (n := a.lg.size) (by simp only [TNode.size]; omega)]; done)
    | (rw [lessN_ge (left := left) (n := a.lg.size) (by simp only [TNode.size]; omega)]; try exact congrArg I (by simp only [TNode.size] <;> omega))
  ·
   replace h2 := of_decide_eq_false h2
   refine WC.skipn ?_
   refine WC.seq ?_
   refine WL.p Q0 (Yl.fieldAddr fa260_3 Q0) ?_
   refine WL.p Q0 (Yl.loadB sca258 Q0 hs Q1 Q0) ?_
   refine Qm ?_
   refine WL.callp hs Q0 (Yc.func Q0 fn280) (c_laws_szAttrS _ _ _ (Ph.old h_a.attrs hs) (by first | assumption | omega | (simp only [TNode.size]; omega)) (by first | assumption | omega | (simp only [TNode.size]; omega))) ?_
   clear hs; intro w hs
   refine Qa ?_
   refine WL.next ?_
   refine WC.seq' ?_
   refine WC.seq ?_
   refine Qm ?_
   refine WL.p Q0 (Yl.lss Q0 Q0) ?_
   refine WL.next ?_
   refine WC.condS Q0 (fun h3 => ?_) (fun h3 => ?_)
   ·
    replace h3 := lessN_neg (of_decide_eq_true h3)
    refine WC.seq ?_
    refine Qa ?_
    refine WL.next ?_
    refine WC.ret ?_
    refine At.thenret ?_
    refine fin1' rfl Q0 ?_
    refine RetP.mk hs ?_
    first
     | (rw [lessN_lt (left := left) (n := a.lg.size) (by simp only [TNode.size]; omega)]; done)
     | (rw [lessN_ge (left := left) (n := a.lg.size) (by simp only [TNode.size]; omega)]; try exact congrArg I (by simp only [TNode.size] <;> omega))
   ·
    replace h3 := lessN_nn Q7 (of_decide_eq_false h3)
    refine WC.skipn ?_
    refine WC.seq ?_
    refine Qm ?_
    refine Qa ?_
    refine WL.next ?_
    refine WC.ret ?_
    refine fin1' rfl Q0 ?_
    refine RetP.mk hs ?_
    first
     | (rw [lessN_lt (left := left) (n := a.lg.size) (by simp only [TNode.size]; omega)]; done)
     | (rw [lessN_ge (left := left) (n := a.lg.size) (by simp only [TNode.size]; omega)]; try exact congrArg I (by simp only [TNode.size] <;> omega))

theorem c_laws_szNodeS (a : (Sl PNode)) (left : Int) (w : World) (h_a : Ph.ok w a) (hl0 : 0 ≤ left) (hl1 : left ≤ 1048576) : Calls Tryz.prog 142 [Sl.v a, I left].toArray w (RetP w (I (lessN left (lsz (fun x : PNode => x.lg.size) a.l)))) := by
 have hw := h_a.lt
 refine enterN 27 Tryz.func142 rfl rfl rfl ?_
 have hs := Sat.start w
 refine WC.seq ?_
 refine Qa ?_
 refine WL.next ?_
 refine WC.seq ?_
 refine Qm ?_
 refine Qm ?_
 refine WL.p Q0 (Yl.len_sl slu93 Q0) ?_
 refine WL.p Q0 (Yl.sub_ Q0 Q0 Q7) ?_
 refine Qa ?_
 refine WL.next ?_
 refine WC.seq' ?_
 refine WC.seq ?_
 refine Qm ?_
 refine WL.p Q0 (Yl.lss Q0 Q0) ?_
 refine WL.next ?_
 refine WC.condS Q0 (fun h1 => ?_) (fun h1 => ?_)
 ·
  replace h1 := of_decide_eq_true h1
  refine WC.seq ?_
  refine Qa ?_
  refine WL.next ?_
  refine WC.ret ?_
  refine At.thenret ?_
  refine fin1' rfl Q0 ?_
  refine RetP.mk hs ?_
  rw [lessN_lt (by simp only [lsz]; omega)]
 ·
  replace h1 := of_decide_eq_false h1
  refine WC.skipn ?_
  refine WC.seq' ?_
  refine WC.seq ?_
  refine Qa ?_
  refine WL.next ?_
  refine WC.block ?_
  refine WC.loopC (ι := Nat × Int) (fun ⟨k, l⟩ => a.l.length - k) (fun ⟨k, l⟩ => [(5, I (k : Int)), (1, I l)]) (fun _ => []) (fun ⟨k, l⟩ => 0 ≤ l ∧ l ≤ 1048576 ∧ lessN l (lsum (fun x : PNode => x.lg.size) (a.l.drop k)) = lessN left (lsz (fun x : PNode => x.lg.size) a.l)) [(0, _), (11, _)] (0, left - (a.l.length : Int)) (hs) ⟨by rfl, by rfl, trivial⟩ ⟨by rfl, by rfl, trivial⟩ ?_ ?_
  ·
   refine ⟨by omega, by omega, ?_⟩
   rw [List.drop_zero, lsz, lessN_sub Q7]
  clear hs; rintro ⟨k, l⟩ w ⟨hJ1, hJ2, hJ3⟩ hs
  simp only [List.nil_append] at hs
  refine WC.seq' ?_
  refine WC.seq ?_
  refine Qm ?_
  refine Qm ?_
  refine WL.p Q0 (Yl.len_sl slu93 Q0) ?_
  refine WL.p Q0 (Yl.lss Q0 Q0) ?_
  refine WL.next ?_
  refine WC.condS Q0 (fun h2 => ?_) (fun h2 => ?_)
  ·
   replace h2 := of_decide_eq_true h2
   obtain ⟨d, hd⟩ := exists_get (l := a.l) (k := k) Q7
   rw [drop_cons hd, lsum_cons] at hJ3
   refine WC.skipn ?_
   refine WC.seq' ?_
   refine WC.block ?_
   refine WC.seq ?_
   refine Qm ?_
   refine Qm ?_
   refine WL.p Q0 (Yl.indexAddr slt93 Q0 Q0 (Ph.old h_a hs) Q0 (hd)) ?_
   refine WL.p Q0 (Yl.loadA agg260 Q0 (Sl.Ok.at_ (Ph.old h_a hs) (by assumption)).2 Q0) ?_
   refine Qm ?_
   refine WL.callp hs Q0 (Yc.func Q0 fn219) (c_laws_szNode _ _ _ (Ph.old (Sl.Ok.elem h_a hd) hs) Q10 Q10) ?_
   clear hs; intro w hs
   refine Qa ?_
   refine WL.next ?_
   refine WC.seq ?_
   refine Qm ?_
   refine WL.p Q0 (Yl.lss Q0 Q0) ?_
   refine WL.next ?_
   refine WC.condS Q0 (fun h3 => ?_) (fun h3 => ?_)
   ·
    replace h3 := lessN_neg (of_decide_eq_true h3)
    refine WC.seq ?_
    refine Qa ?_
    refine WL.next ?_
    refine WC.ret ?_
    refine At.blockret ?_
    refine At.thenret ?_
    refine At.thenret ?_
    refine At.blockret ?_
    refine At.thenret ?_
    refine fin1' rfl Q0 ?_
    refine RetP.mk hs ?_
    rw [← hJ3, lessN_add_lt h3]
   ·
    replace h3 := lessN_nn Q7 (of_decide_eq_false h3)
    refine WC.skip ?_
    refine At.blocknormal ?_
    refine At.then_ ?_
    refine WC.region ?_
    refine Qm ?_
    refine WL.p Q0 (Yl.add Q0 Q0 Q7) ?_
    refine Qa ?_
    refine WL.nil ?_
    refine At.roundC (k + 1, lessN l d.lg.size) (hs.only Q2) ⟨by rfl, by rfl, trivial⟩ ⟨by rfl, by rfl, trivial⟩ ?_ ?_
    ·
     show a.l.length - (k + 1) < a.l.length - k
     omega
    ·
     simp only [h3.2]
     refine ⟨by omega, by omega, ?_⟩
     rw [lessN_sub Q7, hJ3]
  ·
   replace h2 := of_decide_eq_false h2
   rw [drop_out (l := a.l) Q7, lsum_nil] at hJ3
   refine WC.exit ?_
   refine At.thenexit ?_
   refine At.thenexit ?_
   refine At.blockexit ?_
   refine At.then_ ?_
   refine WC.seq ?_
   refine Qm ?_
   refine Qa ?_
   refine WL.next ?_
   refine WC.ret ?_
   refine fin1' rfl Q0 ?_
   refine RetP.mk hs ?_
   rw [← hJ3, lessN_zero hJ1]

theorem c_laws_szIntS (a : (Sl Int)) (left : Int) (w : World) (h_a : Ph.ok w a) (hl0 : 0 ≤ left) (hl1 : left ≤ 1048576) : Calls Tryz.prog 143 [Sl.v a, I left].toArray w (RetP w (I (lessN left a.l.length))) := by
 have hw := h_a.lt
 refine enterN 12 Tryz.func143 rfl rfl rfl ?_
 have hs := Sat.start w
 refine WC.seq ?_
 refine Qa ?_
 refine WL.next ?_
 refine WC.seq ?_
 refine Qm ?_
 refine Qm ?_
 refine WL.p Q0 (Yl.len_sl slu62 Q0) ?_
 refine WL.p Q0 (Yl.sub_ Q0 Q0 Q7) ?_
 refine Qa ?_
 refine WL.next ?_
 refine WC.seq' ?_
 refine WC.seq ?_
 refine Qm ?_
 refine WL.p Q0 (Yl.lss Q0 Q0) ?_
 refine WL.next ?_
 refine WC.condS Q0 (fun h1 => ?_) (fun h1 => ?_)
 ·
  replace h1 := of_decide_eq_true h1
  refine WC.seq ?_
  refine Qa ?_
  refine WL.next ?_
  refine WC.ret ?_
  refine At.thenret ?_
  refine fin1' rfl Q0 ?_
  refine RetP.mk hs ?_
  rw [lessN_lt Q7]
 ·
  replace h1 := of_decide_eq_false h1
  refine WC.skipn ?_
  refine WC.seq ?_
  refine Qm ?_
  refine Qa ?_
  refine WL.next ?_
  refine WC.ret ?_
  refine fin1' rfl Q0 ?_
  refine RetP.mk hs ?_
  rw [lessN_ge Q7]

theorem c_laws_szBuilder (a : PBuilder) (left : Int) (w : World) (h_a : Ph.ok w a) (hl0 : 0 ≤ left) (hl1 : left ≤ 1048576) : Calls Tryz.prog 49 [.agg #[Sl.v a.nodes, Sl.v a.opn], I left].toArray w (RetP w (I (lessN left a.lg.size))) := by
 refine enterN 18 Tryz.func49 rfl rfl rfl ?_
 have hs := Sat.start w
 refine WC.seq ?_
 refine WL.r Q0 (Yr.box hs Q0 Q0) ?_
 clear hs; rintro _ w ⟨b1, rfl, hb, hs⟩; clear hb
 refine Qa ?_
 refine WL.next ?_
 refine WC.seq ?_
 refine WL.p Q0 (Yl.fieldAddr fa95_0 Q0) ?_
 refine WL.p Q0 (Yl.loadB sca93 Q0 hs Q1 Q0) ?_
 refine Qm ?_
 refine WL.callp hs Q0 (Yc.func Q0 fn142) (c_laws_szNodeS _ _ _ (Ph.old h_a.nodes hs) (by first | assumption | omega | (simp only [TBuilder.size, lsz_map]; omega)) (by first | assumption | omega | (simp only [TBuilder.size, lsz_map]; omega))) ?_
 clear hs; intro w hs
 refine Qa ?_
 refine WL.next ?_
 refine WC.seq' ?_
 refine WC.seq ?_
 refine Qm ?_
 refine WL.p Q0 (Yl.lss Q0 Q0) ?_
 refine WL.next ?_
 refine WC.condS Q0 (fun h1 => ?_) (fun h1 => ?_)
 ·
  replace h1 := lessN_neg (of_decide_eq_true h1)
  refine WC.seq ?_
  refine Qa ?_
  refine WL.next ?_
  refine WC.ret ?_
  refine At.thenret ?_
  refine fin1' rfl Q0 ?_
  refine RetP.mk hs ?_
  first
   | (rw [lessN_lt (left := left) (n := a.lg.size) (by simp only [TBuilder.size, lsz_map]; omega)]; done)
   | (rw [lessN_ge (left := left) (n := a.lg.size) (by simp only [TBuilder.size, lsz_map]; omega)]; try exact congrArg I (by simp only [TBuilder.size, lsz_map] <;> omega))
 ·
  replace h1 := lessN_nn Q7 (of_decide_eq_false h1)
  refine WC.skipn ?_
  refine WC.seq ?_
  refine WL.p Q0 (Yl.fieldAddr fa95_1 Q0) ?_
  refine WL.p Q0 (Yl.loadB sca62 Q0 hs Q1 Q0) ?_
  refine Qm ?_
  refine WL.callp hs Q0 (Yc.func Q0 fn143) (c_laws_szIntS _ _ _ (Ph.old h_a.opn hs) (by first | assumption | omega | (simp only [TBuilder.size, lsz_map]; omega)) (by first | assumption | omega | (simp only [TBuilder.size, lsz_map]; omega))) ?_
  clear hs; intro w hs
  refine Qa ?_
  refine WL.next ?_
  refine WC.seq' ?_
  refine WC.seq ?_
  refine Qm ?_
  refine WL.p Q0 (Yl.lss Q0 Q0) ?_
  refine WL.next ?_
  refine WC.condS Q0 (fun h2 => ?_) (fun h2 => ?_)
  ·
   replace h2 := lessN_neg (of_decide_eq_true h2)
   refine WC.seq ?_
   refine Qa ?_
   refine WL.next ?_
   refine WC.ret ?_
   refine At.thenret ?_
   refine fin1' rfl Q0 ?_
   refine RetP.mk hs ?_
   first
    | (rw [lessN_lt (left := left) (n := a.lg.size) (by simp only [TBuilder.size, lsz_map]; omega)]; done)
    | (rw [lessN_ge (left := left) (n := a.lg.size) (by simp only [TBuilder.size, lsz_map]; omega)]; try exact congrArg I (by simp only [TBuilder.size, lsz_map] <;> omega))
  ·
   replace h2 := lessN_nn Q7 (of_decide_eq_false h2)
   refine WC.skipn ?_
   refine WC.seq ?_
   refine Qm ?_
   refine Qa ?_
   refine WL.next ?_
   refine WC.ret ?_
   refine fin1' rfl Q0 ?_
   refine RetP.mk hs ?_
   first
    | (rw [lessN_lt (left := left) (n := a.lg.size) (by simp only [TBuilder.size, lsz_map]; omega)]; done)
    | (rw [lessN_ge (left := left) (n := a.lg.size) (by simp only [TBuilder.size, lsz_map]; omega)]; try exact congrArg I (by simp only [TBuilder.size, lsz_map] <;> omega))

theorem c_laws_szRule (a : TRule) (left : Int) (w : World) (h_a : Ph.ok w a) (hl0 : 0 ≤ left) (hl1 : left ≤ 1048576) : Calls Tryz.prog 281 [.agg #[S a.name, I a.color], I left].toArray w (RetP w (I (lessN left a.size))) := by
 have hb0 : a.name.length ≤ 9223372036854775807 := h_a.name
 refine enterN 13 Tryz.func281 rfl rfl rfl ?_
 have hs := Sat.start w
 refine WC.seq ?_
 refine WL.r Q0 (Yr.box hs Q0 Q0) ?_
 clear hs; rintro _ w ⟨b1, rfl, hb, hs⟩; clear hb
 refine Qa ?_
 refine WL.next ?_
 refine WC.seq ?_
 refine Qm ?_
 refine WL.p Q0 (Yl.fieldAddr fa316_0 Q0) ?_
 refine WL.p Q0 (Yl.loadB sca9 Q0 hs Q1 Q0) ?_
 refine WL.p Q0 (Yl.len_str str9 Q0) ?_
 refine WL.p Q0 (Yl.sub_ Q0 Q0 Q7) ?_
 refine Qa ?_
 refine WL.next ?_
 refine WC.seq' ?_
 refine WC.seq ?_
 refine Qm ?_
 refine WL.p Q0 (Yl.lss Q0 Q0) ?_
 refine WL.next ?_
 refine WC.condS Q0 (fun h1 => ?_) (fun h1 => ?_)
 ·
  replace h1 := of_decide_eq_true h1
  refine WC.seq ?_
  refine Qa ?_
  refine WL.next ?_
  refine WC.ret ?_
  refine At.thenret ?_
  refine fin1' rfl Q0 ?_
  refine RetP.mk hs ?_
  first
   | (rw [lessN_lt (left := left) (n := a.size) (by simp only [TRule.size]; omega)]; done)
   | (rw [lessN_ge (left := left) (n := a.size) (by simp only [TRule.size]; omega)]; try exact congrArg I (by simp only [TRule.size] <;> omega))
 ·
  replace h1 := of_decide_eq_false h1
  refine WC.skipn ?_
  refine WC.seq ?_
  refine Qm ?_
  refine Qa ?_
  refine WL.next ?_
  refine WC.ret ?_
  refine fin1' rfl Q0 ?_
  refine RetP.mk hs ?_
  first
   | (rw [lessN_lt (left := left) (n := a.size) (by simp only [TRule.size]; omega)]; done)
   | (rw [lessN_ge (left := left) (n := a.size) (by simp only [TRule.size]; omega)]; try exact congrArg I (by simp only [TRule.size] <;> omega))

theorem c_laws_szRuleS (a : (Sl TRule)) (left : Int) (w : World) (h_a : Ph.ok w a) (hl0 : 0 ≤ left) (hl1 : left ≤ 1048576) : Calls Tryz.prog 220 [Sl.v a, I left].toArray w (RetP w (I (lessN left (lsz TRule.size a.l)))) := by
 have hw := h_a.lt
 refine enterN 27 Tryz.func220 rfl rfl rfl ?_
 have hs := Sat.start w
 refine WC.seq ?_
 refine Qa ?_
 refine WL.next ?_
 refine WC.seq ?_
 refine Qm ?_
 refine Qm ?_
 refine WL.p Q0 (Yl.len_sl slu186 Q0) ?_
 refine WL.p Q0 (Yl.sub_ Q0 Q0 Q7) ?_
 refine Qa ?_
 refine WL.next ?_
 refine WC.seq' ?_
 refine WC.seq ?_
 refine Qm ?_
 refine WL.p Q0 (Yl.lss Q0 Q0) ?_
 refine WL.next ?_
 refine WC.condS Q0 (fun h1 => ?_) (fun h1 => ?_)
 ·
  replace h1 := of_decide_eq_true h1
  refine WC.seq ?_
  refine Qa ?_
  refine WL.next ?_
  refine WC.ret ?_
  refine At.thenret ?_
  refine fin1' rfl Q0 ?_
  refine RetP.mk hs ?_
  rw [lessN_lt (by simp only [lsz]; omega)]
 ·
  replace h1 := of_decide_eq_false h1
  refine WC.skipn ?_
  refine WC.seq' ?_
  refine WC.seq ?_
  refine Qa ?_
  refine WL.next ?_
  refine WC.block ?_
  refine WC.loopC (ι := Nat × Int) (fun ⟨k, l⟩ => a.l.length - k) (fun ⟨k, l⟩ => [(5, I (k : Int)), (1, I l)]) (fun _ => []) (fun ⟨k, l⟩ => 0 ≤ l ∧ l ≤ 1048576 ∧ lessN l (lsum TRule.size (a.l.drop k)) = lessN left (lsz TRule.size a.l)) [(0, _), (11, _)] (0, left - (a.l.length : Int)) (hs) ⟨by rfl, by rfl, trivial⟩ ⟨by rfl, by rfl, trivial⟩ ?_ ?_
  ·
   refine ⟨by omega, by omega, ?_⟩
   rw [List.drop_zero, lsz, lessN_sub Q7]
  clear hs; rintro ⟨k, l⟩ w ⟨hJ1, hJ2, hJ3⟩ hs
  simp only [List.nil_append] at hs
  refine WC.seq' ?_
  refine WC.seq ?_
  refine Qm ?_
  refine Qm ?_
  refine WL.p Q0 (Yl.len_sl slu186 Q0) ?_
  refine WL.p Q0 (Yl.lss Q0 Q0) ?_
  refine WL.next ?_
  refine WC.condS Q0 (fun h2 => ?_) (fun h2 => ?_)
  ·
   replace h2 := of_decide_eq_true h2
   obtain ⟨d, hd⟩ := exists_get (l := a.l) (k := k) Q7
   rw [drop_cons hd, lsum_cons] at hJ3
   refine WC.skipn ?_
   refine WC.seq' ?_
   refine WC.block ?_
   refine WC.seq ?_
   refine Qm ?_
   refine Qm ?_
   refine WL.p Q0 (Yl.indexAddr slt186 Q0 Q0 (Ph.old h_a hs) Q0 (hd)) ?_
   refine WL.p Q0 (Yl.loadA agg316 Q0 (Sl.Ok.at_ (Ph.old h_a hs) (by assumption)).2 Q0) ?_
   refine Qm ?_
   refine WL.callp hs Q0 (Yc.func Q0 fn281) (c_laws_szRule _ _ _ (Ph.old (Sl.Ok.elem h_a hd) hs) Q10 Q10) ?_
   clear hs; intro w hs
   refine Qa ?_
   refine WL.next ?_
   refine WC.seq ?_
   refine Qm ?_
   refine WL.p Q0 (Yl.lss Q0 Q0) ?_
   refine WL.next ?_
   refine WC.condS Q0 (fun h3 => ?_) (fun h3 => ?_)
   ·
    replace h3 := lessN_neg (of_decide_eq_true h3)
    refine WC.seq ?_
    refine Qa ?_
    refine WL.next ?_
    refine WC.ret ?_
    refine At.blockret ?_
    refine At.thenret ?_
    refine At.thenret ?_
    refine At.blockret ?_
    refine At.thenret ?_
    refine fin1' rfl Q0 ?_
    refine RetP.mk hs ?_
    rw [← hJ3, lessN_add_lt h3]
   ·
    replace h3 := lessN_nn Q7 (of_decide_eq_false h3)
    refine WC.skip ?_
    refine At.blocknormal ?_
    refine At.then_ ?_
    refine WC.region ?_
    refine Qm ?_
    refine WL.p Q0 (Yl.add Q0 Q0 Q7) ?_
    refine Qa ?_
    refine WL.nil ?_
    refine At.roundC (k + 1, lessN l (TRule.size d)) (hs.only Q2) ⟨by rfl, by rfl, trivial⟩ ⟨by rfl, by rfl, trivial⟩ ?_ ?_
    ·
     show a.l.length - (k + 1) < a.l.length - k
     omega
    ·
     simp only [h3.2]
     refine ⟨by omega, by omega, ?_⟩
     rw [lessN_sub Q7, hJ3]
  ·
   replace h2 := of_decide_eq_false h2
   rw [drop_out (l := a.l) Q7, lsum_nil] at hJ3
   refine WC.exit ?_
   refine At.thenexit ?_
   refine At.thenexit ?_
   refine At.blockexit ?_
   refine At.then_ ?_
   refine WC.seq ?_
   refine Qm ?_
   refine Qa ?_
   refine WL.next ?_
   refine WC.ret ?_
   refine fin1' rfl Q0 ?_
   refine RetP.mk hs ?_
   rw [← hJ3, lessN_zero hJ1]

theorem c_laws_szSheet (a : PSheet) (left : Int) (w : World) (h_a : Ph.ok w a) (hl0 : 0 ≤ left) (hl1 : left ≤ 1048576) : Calls Tryz.prog 144 [.agg #[Sl.v a.rules], I left].toArray w (RetP w (I (lessN left a.lg.size))) := by
 refine enterN 12 Tryz.func144 rfl rfl rfl ?_
 have hs := Sat.start w
 refine WC.seq ?_
 refine WL.r Q0 (Yr.box hs Q0 Q0) ?_
 clear hs; rintro _ w ⟨b1, rfl, hb, hs⟩; clear hb
 refine Qa ?_
 refine WL.next ?_
 refine WC.seq ?_
 refine WL.p Q0 (Yl.fieldAddr fa188_0 Q0) ?_
 refine WL.p Q0 (Yl.loadB sca186 Q0 hs Q1 Q0) ?_
 refine Qm ?_
 refine WL.callp hs Q0 (Yc.func Q0 fn220) (c_laws_szRuleS _ _ _ (Ph.old h_a.rules hs) (by first | assumption | omega | (simp only [TSheet.size]; omega)) (by first | assumption | omega | (simp only [TSheet.size]; omega))) ?_
 clear hs; intro w hs
 refine Qa ?_
 refine WL.next ?_
 refine WC.seq' ?_
 refine WC.seq ?_
 refine Qm ?_
 refine WL.p Q0 (Yl.lss Q0 Q0) ?_
 refine WL.next ?_
 refine WC.condS Q0 (fun h1 => ?_) (fun h1 => ?_)
 ·
  replace h1 := lessN_neg (of_decide_eq_true h1)
  refine WC.seq ?_
  refine Qa ?_
  refine WL.next ?_
  refine WC.ret ?_
  refine At.thenret ?_
  refine fin1' rfl Q0 ?_
  refine RetP.mk hs ?_
  first
   | (rw [lessN_lt (left := left) (n := a.lg.size) (by simp only [TSheet.size]; omega)]; done)
   | (rw [lessN_ge (left := left) (n := a.lg.size) (by simp only [TSheet.size]; omega)]; try exact congrArg I (by simp only [TSheet.size] <;> omega))
 ·
  replace h1 := lessN_nn Q7 (of_decide_eq_false h1)
  refine WC.skipn ?_
  refine WC.seq ?_
  refine Qm ?_
  refine Qa ?_
  refine WL.next ?_
  refine WC.ret ?_
  refine fin1' rfl Q0 ?_
  refine RetP.mk hs ?_
  first
   | (rw [lessN_lt (left := left) (n := a.lg.size) (by simp only [TSheet.size]; omega)]; done)
   | (rw [lessN_ge (left := left) (n := a.lg.size) (by simp only [TSheet.size]; omega)]; try exact congrArg I (by simp only [TSheet.size] <;> omega))

theorem c_laws_szSheetS (a : (Sl PSheet)) (left : Int) (w : World) (h_a : Ph.ok w a) (hl0 : 0 ≤ left) (hl1 : left ≤ 1048576) : Calls Tryz.prog 50 [Sl.v a, I left].toArray w (RetP w (I (lessN left (lsz (fun x : PSheet => x.lg.size) a.l)))) := by
 have hw := h_a.lt
 refine enterN 27 Tryz.func50 rfl rfl rfl ?_
 have hs := Sat.start w
 refine WC.seq ?_
 refine Qa ?_
 refine WL.next ?_
 refine WC.seq ?_
 refine Qm ?_
 refine Qm ?_
 refine WL.p Q0 (Yl.len_sl slu96 Q0) ?_
 refine WL.p Q0 (Yl.sub_ Q0 Q0 Q7) ?_
 refine Qa ?_
 refine WL.next ?_
 refine WC.seq' ?_
 refine WC.seq ?_
 refine Qm ?_
 refine WL.p Q0 (Yl.lss Q0 Q0) ?_
 refine WL.next ?_
 refine WC.condS Q0 (fun h1 => ?_) (fun h1 => ?_)
 ·
  replace h1 := of_decide_eq_true h1
  refine WC.seq ?_
  refine Qa ?_
  refine WL.next ?_
  refine WC.ret ?_
  refine At.thenret ?_
  refine fin1' rfl Q0 ?_
  refine RetP.mk hs ?_
  rw [lessN_lt (by simp only [lsz]; omega)]
 ·
  replace h1 := of_decide_eq_false h1
  refine WC.skipn ?_
  refine WC.seq' ?_
  refine WC.seq ?_
  refine Qa ?_
  refine WL.next ?_
  refine WC.block ?_
  refine WC.loopC (ι := Nat × Int) (fun ⟨k, l⟩ => a.l.length - k) (fun ⟨k, l⟩ => [(5, I (k : Int)), (1, I l)]) (fun _ => []) (fun ⟨k, l⟩ => 0 ≤ l ∧ l ≤ 1048576 ∧ lessN l (lsum (fun x : PSheet => x.lg.size) (a.l.drop k)) = lessN left (lsz (fun x : PSheet => x.lg.size) a.l)) [(0, _), (11, _)] (0, left - (a.l.length : Int)) (hs) ⟨by rfl, by rfl, trivial⟩ ⟨by rfl, by rfl, trivial⟩ ?_ ?_
  ·
   refine ⟨by omega, by omega, ?_⟩
   rw [List.drop_zero, lsz, lessN_sub Q7]
  clear hs; rintro ⟨k, l⟩ w ⟨hJ1, hJ2, hJ3⟩ hs
  simp only [List.nil_append] at hs
  refine WC.seq' ?_
  refine WC.seq ?_
  refine Qm ?_
  refine Qm ?_
  refine WL.p Q0 (Yl.len_sl slu96 Q0) ?_
  refine WL.p Q0 (Yl.lss Q0 Q0) ?_
  refine WL.next ?_
  refine WC.condS Q0 (fun h2 => ?_) (fun h2 => ?_)
  ·
   replace h2 := of_decide_eq_true h2
   obtain ⟨d, hd⟩ := exists_get (l := a.l) (k := k) Q7
   rw [drop_cons hd, lsum_cons] at hJ3
   refine WC.skipn ?_
   refine WC.seq' ?_
   refine WC.block ?_
   refine WC.seq ?_
   refine Qm ?_
   refine Qm ?_
   refine WL.p Q0 (Yl.indexAddr slt96 Q0 Q0 (Ph.old h_a hs) Q0 (hd)) ?_
   refine WL.p Q0 (Yl.loadA agg188 Q0 (Sl.Ok.at_ (Ph.old h_a hs) (by assumption)).2 Q0) ?_
   refine Qm ?_
   refine WL.callp hs Q0 (Yc.func Q0 fn144) (c_laws_szSheet _ _ _ (Ph.old (Sl.Ok.elem h_a hd) hs) Q10 Q10) ?_
   clear hs; intro w hs
   refine Qa ?_
   refine WL.next ?_
   refine WC.seq ?_
   refine Qm ?_
   refine WL.p Q0 (Yl.lss Q0 Q0) ?_
   refine WL.next ?_
   refine WC.condS Q0 (fun h3 => ?_) (fun h3 => ?_)
   ·
    replace h3 := lessN_neg (of_decide_eq_true h3)
    refine WC.seq ?_
    refine Qa ?_
    refine WL.next ?_
    refine WC.ret ?_
    refine At.blockret ?_
    refine At.thenret ?_
    refine At.thenret ?_
    refine At.blockret ?_
    refine At.thenret ?_
    refine fin1' rfl Q0 ?_
    refine RetP.mk hs ?_
    rw [← hJ3, lessN_add_lt h3]
   ·
    replace h3 := lessN_nn Q7 (of_decide_eq_false h3)
    refine WC.skip ?_
    refine At.blocknormal ?_
    refine At.then_ ?_
    refine WC.region ?_
    refine Qm ?_
    refine WL.p Q0 (Yl.add Q0 Q0 Q7) ?_
    refine Qa ?_
    refine WL.nil ?_
    refine At.roundC (k + 1, lessN l d.lg.size) (hs.only Q2) ⟨by rfl, by rfl, trivial⟩ ⟨by rfl, by rfl, trivial⟩ ?_ ?_
    ·
     show a.l.length - (k + 1) < a.l.length - k
     omega
    ·
     simp only [h3.2]
     refine ⟨by omega, by omega, ?_⟩
     rw [lessN_sub Q7, hJ3]
  ·
   replace h2 := of_decide_eq_false h2
   rw [drop_out (l := a.l) Q7, lsum_nil] at hJ3
   refine WC.exit ?_
   refine At.thenexit ?_
   refine At.thenexit ?_
   refine At.blockexit ?_
   refine At.then_ ?_
   refine WC.seq ?_
   refine Qm ?_
   refine Qa ?_
   refine WL.next ?_
   refine WC.ret ?_
   refine fin1' rfl Q0 ?_
   refine RetP.mk hs ?_
   rw [← hJ3, lessN_zero hJ1]

theorem c_laws_toAttr (a : TAttr) (w : World)   : Calls Tryz.prog 332 [.agg #[S a.name, S a.value]].toArray w (RetP w (.agg (Ph.enc a).toArray)) := by
 refine enterN 11 Tryz.func332 rfl rfl rfl ?_
 have hs := Sat.start w
 refine WC.seq ?_
 refine WL.r Q0 (Yr.box hs Q0 Q0) ?_
 clear hs; rintro _ w ⟨b1, rfl, hb, hs⟩; clear hb
 refine WL.r Q0 (Yr.alloc hs zt255) ?_
 clear hs; rintro _ w ⟨b2, rfl, hb, hs⟩; clear hb
 refine WL.next ?_
 refine WC.seq ?_
 refine WL.r Q0 (Yr.alloc hs zt255) ?_
 clear hs; rintro _ w ⟨b3, rfl, hb, hs⟩; clear hb
 refine WL.next ?_
 refine WC.seq ?_
 refine WL.p Q0 (Yl.fieldAddr fa359_0 Q0) ?_
 refine WL.p Q0 (Yl.loadB sca9 Q0 hs Q1 Q0) ?_
 refine WL.p Q0 (Yl.fieldAddr fa255_0 Q0) ?_
 refine WL.s (Yr.storeB hs Q0 Q0 Q0 Q5 Q3 Q0 (by exact szf9)) ?_
 clear hs; rintro _ w hs
 refine WL.next ?_
 refine WC.seq ?_
 refine WL.p Q0 (Yl.fieldAddr fa359_1 Q0) ?_
 refine WL.p Q0 (Yl.loadB sca9 Q0 hs Q1 Q0) ?_
 refine WL.p Q0 (Yl.fieldAddr fa255_1 Q0) ?_
 refine WL.s (Yr.storeB hs Q0 Q0 Q0 Q5 Q3 Q0 (by exact szf9)) ?_
 clear hs; rintro _ w hs
 refine WL.next ?_
 refine WC.seq ?_
 refine WL.p Q0 (Yl.loadAB agg255 Q0 hs Q1 Q0 Q0) ?_
 refine WL.s (Yr.storeB hs Q0 Q0 Q0 Q5 Q3 Q0 (by exact szf255)) ?_
 clear hs; rintro _ w hs
 refine WL.next ?_
 refine WC.ret ?_
 refine fin1c rfl agg255 Q0 hs Q1 Q0 ?_
 refine RetP.mk hs ?_
 rfl

theorem c_laws_toAttrS (a : (Sl TAttr)) (w : World) (h_a : Ph.ok w a) (hb : a.l.length ≤ 1048576) : Calls Tryz.prog 282 [Sl.v a].toArray w (Ret w (fun v w' => ∃ x : Sl TAttr, v = x.v ∧ x.l = a.l ∧ Fresh w x w')) := by
 have hw := h_a.lt
 refine enterN 23 Tryz.func282 rfl rfl rfl ?_
 have hs := Sat.start w
 refine WC.seq ?_
 refine Qa ?_
 refine WL.next ?_
 refine WC.seq ?_
 refine Qm ?_
 refine WL.p Q0 (Yl.len_sl slu258 Q0) ?_
 refine WL.r Q0 (Yr.makeSlice (z := (⟨[], []⟩ : TAttr)) (bytes := 32) hs elt163 Q0 Q0 Q7 (by unfold maxLen; omega)) ?_
 clear hs; rintro _ w ⟨s1, F1, rfl, hl1, hb, hs⟩; clear hb
 refine Qa ?_
 refine WL.next ?_
 refine WC.seq' ?_
 refine WC.seq ?_
 refine Qa ?_
 refine WL.next ?_
 refine WC.block ?_
 refine WC.loopC (ι := Nat × Sl TAttr × List Nat) (fun ⟨k, s, F⟩ => a.l.length - k) (fun ⟨k, s, F⟩ => [(4, I (k : Int)), (3, s.v)]) (fun ⟨k, s, F⟩ => [ow s F]) (fun ⟨k, s, F⟩ => k ≤ a.l.length ∧ s.l = a.l.take k ++ List.replicate (a.l.length - k) (⟨[], []⟩ : TAttr)) [(0, _), (2, _)] (0, s1, F1) (hs.sel (D := [ow s1 F1]) Q2) ⟨by rfl, by rfl, trivial⟩ ⟨by rfl, by rfl, trivial⟩ ?_ ?_
 ·
  exact ⟨Nat.zero_le _, by simp [hl1]⟩
 clear hs; rintro ⟨k, s, F⟩ w ⟨hJ1, hJ2⟩ hs
 simp only [List.cons_append, List.nil_append] at hs
 refine WC.seq' ?_
 refine WC.seq ?_
 refine Qm ?_
 refine Qm ?_
 refine WL.p Q0 (Yl.len_sl slu258 Q0) ?_
 refine WL.p Q0 (Yl.lss Q0 Q0) ?_
 refine WL.next ?_
 refine WC.condS Q0 (fun h1 => ?_) (fun h1 => ?_)
 ·
  replace h1 := of_decide_eq_true h1
  obtain ⟨d, hd⟩ := exists_get (l := a.l) (k := k) Q7
  have hkl : k < s.l.length := by rw [hJ2]; simp; omega
  refine WC.skipn ?_
  refine WC.seq' ?_
  refine WC.block ?_
  refine WC.region ?_
  refine Qm ?_
  refine Qm ?_
  refine Qm ?_
  refine Qm ?_
  refine WL.p Q0 (Yl.indexAddr slt258 Q0 Q0 (Ph.old h_a hs) Q0 (hd)) ?_
  refine WL.p Q0 (Yl.loadA agg359 Q0 (Sl.Ok.at_ (Ph.old h_a hs) (by assumption)).2 Q0) ?_
  refine WL.callp hs Q0 (Yc.func Q0 fn332) (c_laws_toAttr _ _) ?_
  clear hs; intro w hs
  refine WL.p Q0 (Yl.indexAddr slt163 Q0 Q0 (hs.okow (x := s) (F := F) Q1) Q0 (List.getElem?_eq_getElem hkl)) ?_
  refine WL.s (Yr.storeE (k := k) (hs.flat (by first | assumption | (refine Ph.old ?_ hs; assumption) | (refine Ph.old (Sl.Ok.elem ?_ (by assumption)) hs; assumption))) Q2 Q0 Q0 Q0 (by exact hkl) ⟨_, by rfl, by rfl⟩ szf255) ?_
  clear hs; rintro _ w ⟨F2, hs⟩
  refine WL.nil ?_
  refine At.blocknormal ?_
  refine At.then_ ?_
  refine WC.region ?_
  refine Qm ?_
  refine WL.p Q0 (Yl.add Q0 Q0 Q7) ?_
  refine Qa ?_
  refine WL.nil ?_
  refine At.roundC (k + 1, ⟨s.l.set k d, s.a, s.c⟩, _) (hs.only Q2) ⟨by rfl, by rfl, trivial⟩ ⟨by rfl, by rw [Sl.v_set]; rfl, trivial⟩ ?_ ?_
  ·
   show a.l.length - (k + 1) < a.l.length - k
   omega
  ·
   exact ⟨by omega, by simp only [hJ2]; exact fill_step hd⟩
 ·
  replace h1 := of_decide_eq_false h1
  refine WC.exit ?_
  refine At.thenexit ?_
  refine At.thenexit ?_
  refine At.blockexit ?_
  refine At.then_ ?_
  refine WC.seq ?_
  refine Qm ?_
  refine Qa ?_
  refine WL.next ?_
  refine WC.ret ?_
  refine fin1' rfl Q0 ?_
  refine Ret.mk hs ?_
  exact ⟨s, rfl, by rw [hJ2, show k = a.l.length from by omega]; simp, hs.fresh Q1⟩

theorem c_laws_toNode (a : PNode) (w : World) (h_a : Ph.ok w a) (hb : a.lg.size ≤ 1048576) : Calls Tryz.prog 221 [.agg #[S a.name, S a.text, I a.parent, Sl.v a.attrs]].toArray w (Ret w (fun v w' => ∃ x : PNode, v = .agg (Ph.enc x).toArray ∧ x.lg = a.lg ∧ Fresh w x w')) := by
 refine enterN 18 Tryz.func221 rfl rfl rfl ?_
 have hs := Sat.start w
 refine WC.seq ?_
 refine WL.r Q0 (Yr.box hs Q0 Q0) ?_
 clear hs; rintro _ w ⟨b1, rfl, hb, hs⟩; clear hb
 refine WL.r Q0 (Yr.alloc hs zt165) ?_
 clear hs; rintro _ w ⟨b2, rfl, hb, hs⟩; clear hb
 refine WL.next ?_
 refine WC.seq ?_
 refine WL.r Q0 (Yr.alloc hs zt165) ?_
 clear hs; rintro _ w ⟨b3, rfl, hb, hs⟩; clear hb
 refine WL.next ?_
 refine WC.seq ?_
 refine WL.p Q0 (Yl.fieldAddr fa260_0 Q0) ?_
 refine WL.p Q0 (Yl.loadB sca9 Q0 hs Q1 Q0) ?_
 refine WL.p Q0 (Yl.fieldAddr fa165_0 Q0) ?_
 refine WL.s (Yr.storeB hs Q0 Q0 Q0 Q5 Q3 Q0 (by exact szf9)) ?_
 clear hs; rintro _ w hs
 refine WL.next ?_
 refine WC.seq ?_
 refine WL.p Q0 (Yl.fieldAddr fa260_1 Q0) ?_
 refine WL.p Q0 (Yl.loadB sca9 Q0 hs Q1 Q0) ?_
 refine WL.p Q0 (Yl.fieldAddr fa165_1 Q0) ?_
 refine WL.s (Yr.storeB hs Q0 Q0 Q0 Q5 Q3 Q0 (by exact szf9)) ?_
 clear hs; rintro _ w hs
 refine WL.next ?_
 refine WC.seq ?_
 refine WL.p Q0 (Yl.fieldAddr fa260_2 Q0) ?_
 refine WL.p Q0 (Yl.loadB sca3 Q0 hs Q1 Q0) ?_
 refine WL.p Q0 (Yl.fieldAddr fa165_2 Q0) ?_
 refine WL.s (Yr.storeB hs Q0 Q0 Q0 Q5 Q3 Q0 (by exact szf3)) ?_
 clear hs; rintro _ w hs
 refine WL.next ?_
 refine WC.seq ?_
 refine WL.p Q0 (Yl.fieldAddr fa260_3 Q0) ?_
 refine WL.p Q0 (Yl.loadB sca258 Q0 hs Q1 Q0) ?_
 refine WL.call hs Q0 (Yc.func Q0 fn282) (c_laws_toAttrS _ _ (Ph.old h_a.attrs hs) Q10) ?_
 have hs0 := hs; clear hs; intro v w hb hR hs; clear hs
 obtain ⟨x4, rfl, hx4, hf4⟩ := hR
 obtain ⟨F4, hs⟩ := hf4.sat hs0 hb; clear hs0 hf4
 have hle4 := Sl.Ok.le (hs.okow (x := x4) (F := F4) Q1)
 refine WL.p Q0 (Yl.fieldAddr fa165_3 Q0) ?_
 refine WL.s (Yr.storeB hs Q0 Q0 Q0 Q5 Q3 Q0 (by exact szf163)) ?_
 clear hs; rintro _ w hs
 refine WL.next ?_
 refine WC.seq ?_
 refine WL.p Q0 (Yl.loadAB agg165 Q0 hs Q1 Q0 Q0) ?_
 refine WL.s (Yr.storeB hs Q0 Q0 Q0 Q5 Q3 Q0 (by exact szf165)) ?_
 clear hs; rintro _ w hs
 refine WL.next ?_
 refine WC.ret ?_
 refine fin1c rfl agg165 Q0 hs Q1 Q0 ?_
 refine Ret.mk hs ?_
 refine ⟨⟨_, _, _, x4⟩, rfl, ?_, ?_⟩
 · simp_all
 · exact (PNode.join _ (hs.only (D := [ow x4 F4]) Q2) (by first | exact Ph.old h_a.name hs | trivial | assumption | exact Nat.zero_le _) (by first | exact Ph.old h_a.text hs | trivial | assumption | exact Nat.zero_le _) (by first | exact Ph.old h_a.parent hs | trivial | assumption | exact Nat.zero_le _)).fresh List.mem_cons_self

theorem c_laws_toNodeS (a : (Sl PNode)) (w : World) (h_a : Ph.ok w a) (hb : lsz (fun x : PNode => x.lg.size) a.l ≤ 1048576) : Calls Tryz.prog 145 [Sl.v a].toArray w (Ret w (fun v w' => ∃ x : Sl PNode, v = x.v ∧ x.l.map PNode.lg = a.l.map PNode.lg ∧ Fresh w x w')) := by
 have hw := h_a.lt
 refine enterN 23 Tryz.func145 rfl rfl rfl ?_
 have hs := Sat.start w
 refine WC.seq ?_
 refine Qa ?_
 refine WL.next ?_
 refine WC.seq ?_
 refine Qm ?_
 refine WL.p Q0 (Yl.len_sl slu93 Q0) ?_
 refine WL.r Q0 (Yr.makeSlice (z := (⟨[], [], 0, ⟨[], none, 0⟩⟩ : PNode)) (bytes := 64) hs elt61 Q0 Q0 (by simp only [lsz] at hb; omega) (by simp only [lsz] at hb; unfold maxLen; omega)) ?_
 clear hs; rintro _ w ⟨s1, F1, rfl, hl1, hb, hs⟩; clear hb
 refine Qa ?_
 refine WL.next ?_
 refine WC.seq' ?_
 refine WC.seq ?_
 refine Qa ?_
 refine WL.next ?_
 refine WC.block ?_
 refine WC.loopC (ι := Nat × Sl PNode × List Nat) (fun ⟨k, s, F⟩ => a.l.length - k) (fun ⟨k, s, F⟩ => [(4, I (k : Int)), (3, s.v)]) (fun ⟨k, s, F⟩ => [ow s F]) (fun ⟨k, s, F⟩ => k ≤ a.l.length ∧ s.l.map PNode.lg = (a.l.take k).map PNode.lg ++ List.replicate (a.l.length - k) (PNode.lg ⟨[], [], 0, ⟨[], none, 0⟩⟩)) [(0, _), (2, _)] (0, s1, F1) (hs.sel (D := [ow s1 F1]) Q2) ⟨by rfl, by rfl, trivial⟩ ⟨by rfl, by rfl, trivial⟩ ?_ ?_
 ·
  exact ⟨Nat.zero_le _, by simp [hl1]⟩
 clear hs; rintro ⟨k, s, F⟩ w ⟨hJ1, hJ2⟩ hs
 simp only [List.cons_append, List.nil_append] at hs
 refine WC.seq' ?_
 refine WC.seq ?_
 refine Qm ?_
 refine Qm ?_
 refine WL.p Q0 (Yl.len_sl slu93 Q0) ?_
 refine WL.p Q0 (Yl.lss Q0 Q0) ?_
 refine WL.next ?_
 refine WC.condS Q0 (fun h1 => ?_) (fun h1 => ?_)
 ·
  replace h1 := of_decide_eq_true h1
  obtain ⟨d, hd⟩ := exists_get (l := a.l) (k := k) Q7
  have hkl : k < s.l.length := by have := congrArg List.length hJ2; simp at this; omega
  have hle : d.lg.size ≤ 1048576 := by have := lsum_le (f := (fun x : PNode => x.lg.size)) (List.mem_of_getElem? hd); simp only [lsz] at hb; omega
  refine WC.skipn ?_
  refine WC.seq' ?_
  refine WC.block ?_
  refine WC.region ?_
  refine Qm ?_
  refine Qm ?_
  refine Qm ?_
  refine Qm ?_
  refine WL.p Q0 (Yl.indexAddr slt93 Q0 Q0 (Ph.old h_a hs) Q0 (hd)) ?_
  refine WL.p Q0 (Yl.loadA agg260 Q0 (Sl.Ok.at_ (Ph.old h_a hs) (by assumption)).2 Q0) ?_
  refine WL.call hs Q0 (Yc.func Q0 fn221) (c_laws_toNode _ _ (Ph.old (Sl.Ok.elem h_a hd) hs) Q10) ?_
  have hs0 := hs; clear hs; intro v w hb hR hs; clear hs
  obtain ⟨x2, rfl, hx2, hf2⟩ := hR
  obtain ⟨F2, hs⟩ := hf2.sat hs0 hb; clear hs0 hf2
  refine WL.p Q0 (Yl.indexAddr slt61 Q0 Q0 (hs.okow (x := s) (F := F) Q1) Q0 (List.getElem?_eq_getElem hkl)) ?_
  refine WL.s (Yr.storeE (k := k) hs Q2 Q0 Q0 Q0 (by exact hkl) ⟨_, by rfl, by rfl⟩ szf165) ?_
  clear hs; rintro _ w ⟨F3, hs⟩
  refine WL.nil ?_
  refine At.blocknormal ?_
  refine At.then_ ?_
  refine WC.region ?_
  refine Qm ?_
  refine WL.p Q0 (Yl.add Q0 Q0 Q7) ?_
  refine Qa ?_
  refine WL.nil ?_
  refine At.roundC (k + 1, ⟨s.l.set k x2, s.a, s.c⟩, _) (hs.only Q2) ⟨by rfl, by rfl, trivial⟩ ⟨by rfl, by rw [Sl.v_set]; rfl, trivial⟩ ?_ ?_
  ·
   show a.l.length - (k + 1) < a.l.length - k
   omega
  ·
   exact ⟨by omega, fill_map hd hJ2 hx2⟩
 ·
  replace h1 := of_decide_eq_false h1
  refine WC.exit ?_
  refine At.thenexit ?_
  refine At.thenexit ?_
  refine At.blockexit ?_
  refine At.then_ ?_
  refine WC.seq ?_
  refine Qm ?_
  refine Qa ?_
  refine WL.next ?_
  refine WC.ret ?_
  refine fin1' rfl Q0 ?_
  refine Ret.mk hs ?_
  exact ⟨s, rfl, by rw [hJ2, show k = a.l.length from by omega]; simp, hs.fresh Q1⟩

theorem c_laws_toIntS (a : (Sl Int)) (w : World) (h_a : Ph.ok w a) (hb : a.l.length ≤ 1048576) : Calls Tryz.prog 146 [Sl.v a].toArray w (Ret w (fun v w' => ∃ x : Sl Int, v = x.v ∧ x.l = a.l ∧ Fresh w x w')) := by
 have hw := h_a.lt
 refine enterN 22 Tryz.func146 rfl rfl rfl ?_
 have hs := Sat.start w
 refine WC.seq ?_
 refine Qa ?_
 refine WL.next ?_
 refine WC.seq ?_
 refine Qm ?_
 refine WL.p Q0 (Yl.len_sl slu62 Q0) ?_
 refine WL.r Q0 (Yr.makeSlice (z := (0 : Int)) (bytes := 8) hs elt62 Q0 Q0 Q7 (by unfold maxLen; omega)) ?_
 clear hs; rintro _ w ⟨s1, F1, rfl, hl1, hb, hs⟩; clear hb
 refine Qa ?_
 refine WL.next ?_
 refine WC.seq' ?_
 refine WC.seq ?_
 refine Qa ?_
 refine WL.next ?_
 refine WC.block ?_
 refine WC.loopC (ι := Nat × Sl Int × List Nat) (fun ⟨k, s, F⟩ => a.l.length - k) (fun ⟨k, s, F⟩ => [(4, I (k : Int)), (3, s.v)]) (fun ⟨k, s, F⟩ => [ow s F]) (fun ⟨k, s, F⟩ => k ≤ a.l.length ∧ s.l = a.l.take k ++ List.replicate (a.l.length - k) (0 : Int)) [(0, _), (2, _)] (0, s1, F1) (hs.sel (D := [ow s1 F1]) Q2) ⟨by rfl, by rfl, trivial⟩ ⟨by rfl, by rfl, trivial⟩ ?_ ?_
 ·
  exact ⟨Nat.zero_le _, by simp [hl1]⟩
 clear hs; rintro ⟨k, s, F⟩ w ⟨hJ1, hJ2⟩ hs
 simp only [List.cons_append, List.nil_append] at hs
 refine WC.seq' ?_
 refine WC.seq ?_
 refine Qm ?_
 refine Qm ?_
 refine WL.p Q0 (Yl.len_sl slu62 Q0) ?_
 refine WL.p Q0 (Yl.lss Q0 Q0) ?_
 refine WL.next ?_
 refine WC.condS Q0 (fun h1 => ?_) (fun h1 => ?_)
 ·
  replace h1 := of_decide_eq_true h1
  obtain ⟨d, hd⟩ := exists_get (l := a.l) (k := k) Q7
  have hkl : k < s.l.length := by rw [hJ2]; simp; omega
  refine WC.skipn ?_
  refine WC.seq' ?_
  refine WC.block ?_
  refine WC.region ?_
  refine Qm ?_
  refine Qm ?_
  refine Qm ?_
  refine Qm ?_
  refine WL.p Q0 (Yl.indexAddr slt62 Q0 Q0 (Ph.old h_a hs) Q0 (hd)) ?_
  refine WL.p Q0 (Yl.loadC0 sca3 Q0 (Sl.Ok.at_ (Ph.old h_a hs) (by assumption)).2 Q0) ?_
  refine WL.p Q0 (Yl.indexAddr slt62 Q0 Q0 (hs.okow (x := s) (F := F) Q1) Q0 (List.getElem?_eq_getElem hkl)) ?_
  refine WL.s (Yr.storeE (k := k) (hs.flat (by first | assumption | (refine Ph.old ?_ hs; assumption) | (refine Ph.old (Sl.Ok.elem ?_ (by assumption)) hs; assumption))) Q2 Q0 Q0 Q0 (by exact hkl) ⟨_, by rfl, by rfl⟩ szf3) ?_
  clear hs; rintro _ w ⟨F2, hs⟩
  refine WL.nil ?_
  refine At.blocknormal ?_
  refine At.then_ ?_
  refine WC.region ?_
  refine Qm ?_
  refine WL.p Q0 (Yl.add Q0 Q0 Q7) ?_
  refine Qa ?_
  refine WL.nil ?_
  refine At.roundC (k + 1, ⟨s.l.set k d, s.a, s.c⟩, _) (hs.only Q2) ⟨by rfl, by rfl, trivial⟩ ⟨by rfl, by rw [Sl.v_set]; rfl, trivial⟩ ?_ ?_
  ·
   show a.l.length - (k + 1) < a.l.length - k
   omega
  ·
   exact ⟨by omega, by simp only [hJ2]; exact fill_step hd⟩
 ·
  replace h1 := of_decide_eq_false h1
  refine WC.exit ?_
  refine At.thenexit ?_
  refine At.thenexit ?_
  refine At.blockexit ?_
  refine At.then_ ?_
  refine WC.seq ?_
  refine Qm ?_
  refine Qa ?_
  refine WL.next ?_
  refine WC.ret ?_
  refine fin1' rfl Q0 ?_
  refine Ret.mk hs ?_
  exact ⟨s, rfl, by rw [hJ2, show k = a.l.length from by omega]; simp, hs.fresh Q1⟩

theorem c_laws_toBuilder (a : PBuilder) (w : World) (h_a : Ph.ok w a) (hb : a.lg.size ≤ 1048576) : Calls Tryz.prog 52 [.agg #[Sl.v a.nodes, Sl.v a.opn]].toArray w (Ret w (fun v w' => ∃ x : PBuilder, v = .agg (Ph.enc x).toArray ∧ x.lg = a.lg ∧ Fresh w x w')) := by
 refine enterN 13 Tryz.func52 rfl rfl rfl ?_
 have hs := Sat.start w
 refine WC.seq ?_
 refine WL.r Q0 (Yr.box hs Q0 Q0) ?_
 clear hs; rintro _ w ⟨b1, rfl, hb, hs⟩; clear hb
 refine WL.r Q0 (Yr.alloc hs zt64) ?_
 clear hs; rintro _ w ⟨b2, rfl, hb, hs⟩; clear hb
 refine WL.next ?_
 refine WC.seq ?_
 refine WL.r Q0 (Yr.alloc hs zt64) ?_
 clear hs; rintro _ w ⟨b3, rfl, hb, hs⟩; clear hb
 refine WL.next ?_
 refine WC.seq ?_
 refine WL.p Q0 (Yl.fieldAddr fa95_0 Q0) ?_
 refine WL.p Q0 (Yl.loadB sca93 Q0 hs Q1 Q0) ?_
 refine WL.call hs Q0 (Yc.func Q0 fn145) (c_laws_toNodeS _ _ (Ph.old h_a.nodes hs) Q10) ?_
 have hs0 := hs; clear hs; intro v w hb hR hs; clear hs
 obtain ⟨x4, rfl, hx4, hf4⟩ := hR
 obtain ⟨F4, hs⟩ := hf4.sat hs0 hb; clear hs0 hf4
 have hle4 := Sl.Ok.le (hs.okow (x := x4) (F := F4) Q1)
 refine WL.p Q0 (Yl.fieldAddr fa64_0 Q0) ?_
 refine WL.s (Yr.storeB hs Q0 Q0 Q0 Q5 Q3 Q0 (by exact szf61)) ?_
 clear hs; rintro _ w hs
 refine WL.next ?_
 refine WC.seq ?_
 refine WL.p Q0 (Yl.fieldAddr fa95_1 Q0) ?_
 refine WL.p Q0 (Yl.loadB sca62 Q0 hs Q1 Q0) ?_
 refine WL.call hs Q0 (Yc.func Q0 fn146) (c_laws_toIntS _ _ (Ph.old h_a.opn hs) Q10) ?_
 have hs0 := hs; clear hs; intro v w hb hR hs; clear hs
 obtain ⟨x5, rfl, hx5, hf5⟩ := hR
 obtain ⟨F5, hs⟩ := hf5.sat hs0 hb; clear hs0 hf5
 have hle5 := Sl.Ok.le (hs.okow (x := x5) (F := F5) Q1)
 refine WL.p Q0 (Yl.fieldAddr fa64_1 Q0) ?_
 refine WL.s (Yr.storeB hs Q0 Q0 Q0 Q5 Q3 Q0 (by exact szf62)) ?_
 clear hs; rintro _ w hs
 refine WL.next ?_
 refine WC.seq ?_
 refine WL.p Q0 (Yl.loadAB agg64 Q0 hs Q1 Q0 Q0) ?_
 refine WL.s (Yr.storeB hs Q0 Q0 Q0 Q5 Q3 Q0 (by exact szf64)) ?_
 clear hs; rintro _ w hs
 refine WL.next ?_
 refine WC.ret ?_
 refine fin1c rfl agg64 Q0 hs Q1 Q0 ?_
 refine Ret.mk hs ?_
 refine ⟨⟨x4, x5⟩, rfl, ?_, ?_⟩
 · simp_all
 · exact (PBuilder.join _ (hs.only (D := [ow x4 F4, ow x5 F5]) Q2) ).fresh List.mem_cons_self

theorem c_laws_toRule (a : TRule) (w : World)   : Calls Tryz.prog 283 [.agg #[S a.name, I a.color]].toArray w (RetP w (.agg (Ph.enc a).toArray)) := by
 refine enterN 11 Tryz.func283 rfl rfl rfl ?_
 have hs := Sat.start w
 refine WC.seq ?_
 refine WL.r Q0 (Yr.box hs Q0 Q0) ?_
 clear hs; rintro _ w ⟨b1, rfl, hb, hs⟩; clear hb
 refine WL.r Q0 (Yr.alloc hs zt60) ?_
 clear hs; rintro _ w ⟨b2, rfl, hb, hs⟩; clear hb
 refine WL.next ?_
 refine WC.seq ?_
 refine WL.r Q0 (Yr.alloc hs zt60) ?_
 clear hs; rintro _ w ⟨b3, rfl, hb, hs⟩; clear hb
 refine WL.next ?_
 refine WC.seq ?_
 refine WL.p Q0 (Yl.fieldAddr fa316_0 Q0) ?_
 refine WL.p Q0 (Yl.loadB sca9 Q0 hs Q1 Q0) ?_
 refine WL.p Q0 (Yl.fieldAddr fa60_0 Q0) ?_
 refine WL.s (Yr.storeB hs Q0 Q0 Q0 Q5 Q3 Q0 (by exact szf9)) ?_
 clear hs; rintro _ w hs
 refine WL.next ?_
 refine WC.seq ?_
 refine WL.p Q0 (Yl.fieldAddr fa316_1 Q0) ?_
 refine WL.p Q0 (Yl.loadB sca3 Q0 hs Q1 Q0) ?_
 refine WL.p Q0 (Yl.fieldAddr fa60_1 Q0) ?_
 refine WL.s (Yr.storeB hs Q0 Q0 Q0 Q5 Q3 Q0 (by exact szf3)) ?_
 clear hs; rintro _ w hs
 refine WL.next ?_
 refine WC.seq ?_
 refine WL.p Q0 (Yl.loadAB agg60 Q0 hs Q1 Q0 Q0) ?_
 refine WL.s (Yr.storeB hs Q0 Q0 Q0 Q5 Q3 Q0 (by exact szf60)) ?_
 clear hs; rintro _ w hs
 refine WL.next ?_
 refine WC.ret ?_
 refine fin1c rfl agg60 Q0 hs Q1 Q0 ?_
 refine RetP.mk hs ?_
 rfl

theorem c_laws_toRuleS (a : (Sl TRule)) (w : World) (h_a : Ph.ok w a) (hb : a.l.length ≤ 1048576) : Calls Tryz.prog 222 [Sl.v a].toArray w (Ret w (fun v w' => ∃ x : Sl TRule, v = x.v ∧ x.l = a.l ∧ Fresh w x w')) := by
 have hw := h_a.lt
 refine enterN 23 Tryz.func222 rfl rfl rfl ?_
 have hs := Sat.start w
 refine WC.seq ?_
 refine Qa ?_
 refine WL.next ?_
 refine WC.seq ?_
 refine Qm ?_
 refine WL.p Q0 (Yl.len_sl slu186 Q0) ?_
 refine WL.r Q0 (Yr.makeSlice (z := (⟨[], 0⟩ : TRule)) (bytes := 24) hs elt49 Q0 Q0 Q7 (by unfold maxLen; omega)) ?_
 clear hs; rintro _ w ⟨s1, F1, rfl, hl1, hb, hs⟩; clear hb
 refine Qa ?_
 refine WL.next ?_
 refine WC.seq' ?_
 refine WC.seq ?_
 refine Qa ?_
 refine WL.next ?_
 refine WC.block ?_
 refine WC.loopC (ι := Nat × Sl TRule × List Nat) (fun ⟨k, s, F⟩ => a.l.length - k) (fun ⟨k, s, F⟩ => [(4, I (k : Int)), (3, s.v)]) (fun ⟨k, s, F⟩ => [ow s F]) (fun ⟨k, s, F⟩ => k ≤ a.l.length ∧ s.l = a.l.take k ++ List.replicate (a.l.length - k) (⟨[], 0⟩ : TRule)) [(0, _), (2, _)] (0, s1, F1) (hs.sel (D := [ow s1 F1]) Q2) ⟨by rfl, by rfl, trivial⟩ ⟨by rfl, by rfl, trivial⟩ ?_ ?_
 ·
  exact ⟨Nat.zero_le _, by simp [hl1]⟩
 clear hs; rintro ⟨k, s, F⟩ w ⟨hJ1, hJ2⟩ hs
 simp only [List.cons_append, List.nil_append] at hs
 refine WC.seq' ?_
 refine WC.seq ?_
 refine Qm ?_
 refine Qm ?_
 refine WL.p Q0 (Yl.len_sl slu186 Q0) ?_
 refine WL.p Q0 (Yl.lss Q0 Q0) ?_
 refine WL.next ?_
 refine WC.condS Q0 (fun h1 => ?_) (fun h1 => ?_)
 ·
  replace h1 := of_decide_eq_true h1
  obtain ⟨d, hd⟩ := exists_get (l := a.l) (k := k) Q7
  have hkl : k < s.l.length := by rw [hJ2]; simp; omega
  refine WC.skipn ?_
  refine WC.seq' ?_
  refine WC.block ?_
  refine WC.region ?_
  refine Qm ?_
  refine Qm ?_
  refine Qm ?_
  refine Qm ?_
  refine WL.p Q0 (Yl.indexAddr slt186 Q0 Q0 (Ph.old h_a hs) Q0 (hd)) ?_
  refine WL.p Q0 (Yl.loadA agg316 Q0 (Sl.Ok.at_ (Ph.old h_a hs) (by assumption)).2 Q0) ?_
  refine WL.callp hs Q0 (Yc.func Q0 fn283) (c_laws_toRule _ _) ?_
  clear hs; intro w hs
  refine WL.p Q0 (Yl.indexAddr slt49 Q0 Q0 (hs.okow (x := s) (F := F) Q1) Q0 (List.getElem?_eq_getElem hkl)) ?_
  refine WL.s (Yr.storeE (k := k) (hs.flat (by first | assumption | (refine Ph.old ?_ hs; assumption) | (refine Ph.old (Sl.Ok.elem ?_ (by assumption)) hs; assumption))) Q2 Q0 Q0 Q0 (by exact hkl) ⟨_, by rfl, by rfl⟩ szf60) ?_
  clear hs; rintro _ w ⟨F2, hs⟩
  refine WL.nil ?_
  refine At.blocknormal ?_
  refine At.then_ ?_
  refine WC.region ?_
  refine Qm ?_
  refine WL.p Q0 (Yl.add Q0 Q0 Q7) ?_
  refine Qa ?_
  refine WL.nil ?_
  refine At.roundC (k + 1, ⟨s.l.set k d, s.a, s.c⟩, _) (hs.only Q2) ⟨by rfl, by rfl, trivial⟩ ⟨by rfl, by rw [Sl.v_set]; rfl, trivial⟩ ?_ ?_
  ·
   show a.l.length - (k + 1) < a.l.length - k
   omega
  ·
   exact ⟨by omega, by simp only [hJ2]; exact fill_step hd⟩
 ·
  replace h1 := of_decide_eq_false h1
  refine WC.exit ?_
  refine At.thenexit ?_
  refine At.thenexit ?_
  refine At.blockexit ?_
  refine At.then_ ?_
  refine WC.seq ?_
  refine Qm ?_
  refine Qa ?_
  refine WL.next ?_
  refine WC.ret ?_
  refine fin1' rfl Q0 ?_
  refine Ret.mk hs ?_
  exact ⟨s, rfl, by rw [hJ2, show k = a.l.length from by omega]; simp, hs.fresh Q1⟩

theorem c_laws_toSheet (a : PSheet) (w : World) (h_a : Ph.ok w a) (hb : a.lg.size ≤ 1048576) : Calls Tryz.prog 147 [.agg #[Sl.v a.rules]].toArray w (Ret w (fun v w' => ∃ x : PSheet, v = .agg (Ph.enc x).toArray ∧ x.lg = a.lg ∧ Fresh w x w')) := by
 refine enterN 9 Tryz.func147 rfl rfl rfl ?_
 have hs := Sat.start w
 refine WC.seq ?_
 refine WL.r Q0 (Yr.box hs Q0 Q0) ?_
 clear hs; rintro _ w ⟨b1, rfl, hb, hs⟩; clear hb
 refine WL.r Q0 (Yr.alloc hs zt51) ?_
 clear hs; rintro _ w ⟨b2, rfl, hb, hs⟩; clear hb
 refine WL.next ?_
 refine WC.seq ?_
 refine WL.r Q0 (Yr.alloc hs zt51) ?_
 clear hs; rintro _ w ⟨b3, rfl, hb, hs⟩; clear hb
 refine WL.next ?_
 refine WC.seq ?_
 refine WL.p Q0 (Yl.fieldAddr fa188_0 Q0) ?_
 refine WL.p Q0 (Yl.loadB sca186 Q0 hs Q1 Q0) ?_
 refine WL.call hs Q0 (Yc.func Q0 fn222) (c_laws_toRuleS _ _ (Ph.old h_a.rules hs) Q10) ?_
 have hs0 := hs; clear hs; intro v w hb hR hs; clear hs
 obtain ⟨x4, rfl, hx4, hf4⟩ := hR
 obtain ⟨F4, hs⟩ := hf4.sat hs0 hb; clear hs0 hf4
 have hle4 := Sl.Ok.le (hs.okow (x := x4) (F := F4) Q1)
 refine WL.p Q0 (Yl.fieldAddr fa51_0 Q0) ?_
 refine WL.s (Yr.storeB hs Q0 Q0 Q0 Q5 Q3 Q0 (by exact szf49)) ?_
 clear hs; rintro _ w hs
 refine WL.next ?_
 refine WC.seq ?_
 refine WL.p Q0 (Yl.loadAB agg51 Q0 hs Q1 Q0 Q0) ?_
 refine WL.s (Yr.storeB hs Q0 Q0 Q0 Q5 Q3 Q0 (by exact szf51)) ?_
 clear hs; rintro _ w hs
 refine WL.next ?_
 refine WC.ret ?_
 refine fin1c rfl agg51 Q0 hs Q1 Q0 ?_
 refine Ret.mk hs ?_
 refine ⟨⟨x4⟩, rfl, ?_, ?_⟩
 · simp_all
 · exact (PSheet.join _ (hs.only (D := [ow x4 F4]) Q2) ).fresh List.mem_cons_self

theorem c_laws_toSheetS (a : (Sl PSheet)) (w : World) (h_a : Ph.ok w a) (hb : lsz (fun x : PSheet => x.lg.size) a.l ≤ 1048576) : Calls Tryz.prog 53 [Sl.v a].toArray w (Ret w (fun v w' => ∃ x : Sl PSheet, v = x.v ∧ x.l.map PSheet.lg = a.l.map PSheet.lg ∧ Fresh w x w')) := by
 have hw := h_a.lt
 refine enterN 23 Tryz.func53 rfl rfl rfl ?_
 have hs := Sat.start w
 refine WC.seq ?_
 refine Qa ?_
 refine WL.next ?_
 refine WC.seq ?_
 refine Qm ?_
 refine WL.p Q0 (Yl.len_sl slu96 Q0) ?_
 refine WL.r Q0 (Yr.makeSlice (z := (⟨⟨[], none, 0⟩⟩ : PSheet)) (bytes := 24) hs elt54 Q0 Q0 (by simp only [lsz] at hb; omega) (by simp only [lsz] at hb; unfold maxLen; omega)) ?_
 clear hs; rintro _ w ⟨s1, F1, rfl, hl1, hb, hs⟩; clear hb
 refine Qa ?_
 refine WL.next ?_
 refine WC.seq' ?_
 refine WC.seq ?_
 refine Qa ?_
 refine WL.next ?_
 refine WC.block ?_
 refine WC.loopC (ι := Nat × Sl PSheet × List Nat) (fun ⟨k, s, F⟩ => a.l.length - k) (fun ⟨k, s, F⟩ => [(4, I (k : Int)), (3, s.v)]) (fun ⟨k, s, F⟩ => [ow s F]) (fun ⟨k, s, F⟩ => k ≤ a.l.length ∧ s.l.map PSheet.lg = (a.l.take k).map PSheet.lg ++ List.replicate (a.l.length - k) (PSheet.lg ⟨⟨[], none, 0⟩⟩)) [(0, _), (2, _)] (0, s1, F1) (hs.sel (D := [ow s1 F1]) Q2) ⟨by rfl, by rfl, trivial⟩ ⟨by rfl, by rfl, trivial⟩ ?_ ?_
 ·
  exact ⟨Nat.zero_le _, by simp [hl1]⟩
 clear hs; rintro ⟨k, s, F⟩ w ⟨hJ1, hJ2⟩ hs
 simp only [List.cons_append, List.nil_append] at hs
 refine WC.seq' ?_
 refine WC.seq ?_
 refine Qm ?_
 refine Qm ?_
 refine WL.p Q0 (Yl.len_sl slu96 Q0) ?_
 refine WL.p Q0 (Yl.lss Q0 Q0) ?_
 refine WL.next ?_
 refine WC.condS Q0 (fun h1 => ?_) (fun h1 => ?_)
 ·
  replace h1 := of_decide_eq_true h1
  obtain ⟨d, hd⟩ := exists_get (l := a.l) (k := k) Q7
  have hkl : k < s.l.length := by have := congrArg List.length hJ2; simp at this; omega
  have hle : d.lg.size ≤ 1048576 := by have := lsum_le (f := (fun x : PSheet => x.lg.size)) (List.mem_of_getElem? hd); simp only [lsz] at hb; omega
  refine WC.skipn ?_
  refine WC.seq' ?_
  refine WC.block ?_
  refine WC.region ?_
  refine Qm ?_
  refine Qm ?_
  refine Qm ?_
  refine Qm ?_
  refine WL.p Q0 (Yl.indexAddr slt96 Q0 Q0 (Ph.old h_a hs) Q0 (hd)) ?_
  refine WL.p Q0 (Yl.loadA agg188 Q0 (Sl.Ok.at_ (Ph.old h_a hs) (by assumption)).2 Q0) ?_
  refine WL.call hs Q0 (Yc.func Q0 fn147) (c_laws_toSheet _ _ (Ph.old (Sl.Ok.elem h_a hd) hs) Q10) ?_
  have hs0 := hs; clear hs; intro v w hb hR hs; clear hs
  obtain ⟨x2, rfl, hx2, hf2⟩ := hR
  obtain ⟨F2, hs⟩ := hf2.sat hs0 hb; clear hs0 hf2
  refine WL.p Q0 (Yl.indexAddr slt54 Q0 Q0 (hs.okow (x := s) (F := F) Q1) Q0 (List.getElem?_eq_getElem hkl)) ?_
  refine WL.s (Yr.storeE (k := k) hs Q2 Q0 Q0 Q0 (by exact hkl) ⟨_, by rfl, by rfl⟩ szf51) ?_
  clear hs; rintro _ w ⟨F3, hs⟩
  refine WL.nil ?_
  refine At.blocknormal ?_
  refine At.then_ ?_
  refine WC.region ?_
  refine Qm ?_
  refine WL.p Q0 (Yl.add Q0 Q0 Q7) ?_
  refine Qa ?_
  refine WL.nil ?_
  refine At.roundC (k + 1, ⟨s.l.set k x2, s.a, s.c⟩, _) (hs.only Q2) ⟨by rfl, by rfl, trivial⟩ ⟨by rfl, by rw [Sl.v_set]; rfl, trivial⟩ ?_ ?_
  ·
   show a.l.length - (k + 1) < a.l.length - k
   omega
  ·
   exact ⟨by omega, fill_map hd hJ2 hx2⟩
 ·
  replace h1 := of_decide_eq_false h1
  refine WC.exit ?_
  refine At.thenexit ?_
  refine At.thenexit ?_
  refine At.blockexit ?_
  refine At.then_ ?_
  refine WC.seq ?_
  refine Qm ?_
  refine Qa ?_
  refine WL.next ?_
  refine WC.ret ?_
  refine fin1' rfl Q0 ?_
  refine Ret.mk hs ?_
  exact ⟨s, rfl, by rw [hJ2, show k = a.l.length from by omega]; simp, hs.fresh Q1⟩

theorem c_laws_eqAttr (a : TAttr) (b : TAttr) (w : World)   : Calls Tryz.prog 333 [.agg #[S a.name, S a.value], .agg #[S b.name, S b.value]].toArray w (RetP w (Bo (decide (a = b)))) := by
 refine enterN 15 Tryz.func333 rfl rfl rfl ?_
 have hs := Sat.start w
 refine WC.seq ?_
 refine WL.r Q0 (Yr.box hs Q0 Q0) ?_
 clear hs; rintro _ w ⟨b1, rfl, hb, hs⟩; clear hb
 refine WL.r Q0 (Yr.box hs Q0 Q0) ?_
 clear hs; rintro _ w ⟨b2, rfl, hb, hs⟩; clear hb
 refine Qa ?_
 refine WL.next ?_
 refine WC.seq' ?_
 refine WC.seq ?_
 refine WL.p Q0 (Yl.fieldAddr fa255_0 Q0) ?_
 refine WL.p Q0 (Yl.loadB sca9 Q0 hs Q1 Q0) ?_
 refine WL.p Q0 (Yl.fieldAddr fa255_0 Q0) ?_
 refine WL.p Q0 (Yl.loadB sca9 Q0 hs Q1 Q0) ?_
 refine WL.p Q0 (Yl.nes Q0 Q0) ?_
 refine WL.next ?_
 refine WC.condS Q0 (fun h1 => ?_) (fun h1 => ?_)
 ·
  replace h1 := not_eq_true h1
  replace h1 := of_decide_eq_false h1
  refine WC.seq ?_
  refine Qa ?_
  refine WL.next ?_
  refine WC.ret ?_
  refine At.thenret ?_
  refine fin1' rfl Q0 ?_
  refine RetP.mk hs ?_
  simp_all [TAttr.ext_iff]
 ·
  replace h1 := not_eq_false h1
  replace h1 := of_decide_eq_true h1
  refine WC.skipn ?_
  refine WC.seq' ?_
  refine WC.seq ?_
  refine WL.p Q0 (Yl.fieldAddr fa255_1 Q0) ?_
  refine WL.p Q0 (Yl.loadB sca9 Q0 hs Q1 Q0) ?_
  refine WL.p Q0 (Yl.fieldAddr fa255_1 Q0) ?_
  refine WL.p Q0 (Yl.loadB sca9 Q0 hs Q1 Q0) ?_
  refine WL.p Q0 (Yl.nes Q0 Q0) ?_
  refine WL.next ?_
  refine WC.condS Q0 (fun h2 => ?_) (fun h2 => ?_)
  ·
   replace h2 := not_eq_true h2
   replace h2 := of_decide_eq_false h2
   refine WC.seq ?_
   refine Qa ?_
   refine WL.next ?_
   refine WC.ret ?_
   refine At.thenret ?_
   refine fin1' rfl Q0 ?_
   refine RetP.mk hs ?_
   simp_all [TAttr.ext_iff]
  ·
   replace h2 := not_eq_false h2
   replace h2 := of_decide_eq_true h2
   refine WC.skipn ?_
   refine WC.seq ?_
   refine Qa ?_
   refine WL.next ?_
   refine WC.ret ?_
   refine fin1' rfl Q0 ?_
   refine RetP.mk hs ?_
   simp_all [TAttr.ext_iff]

theorem c_laws_eqAttrS (a : (Sl TAttr)) (b : (Sl TAttr)) (w : World) (h_a : Ph.ok w a) (h_b : Ph.ok w b)  : Calls Tryz.prog 284 [Sl.v a, Sl.v b].toArray w (RetP w (Bo (decide (a.l = b.l)))) := by
 have hw := h_a.lt
 refine enterN 27 Tryz.func284 rfl rfl rfl ?_
 have hs := Sat.start w
 refine WC.seq ?_
 refine Qa ?_
 refine WL.next ?_
 refine WC.seq' ?_
 refine WC.seq ?_
 refine Qm ?_
 refine WL.p Q0 (Yl.len_sl slu163 Q0) ?_
 refine Qm ?_
 refine WL.p Q0 (Yl.len_sl slu163 Q0) ?_
 refine WL.p Q0 (Yl.nei Q0 Q0) ?_
 refine WL.next ?_
 refine WC.condS Q0 (fun h1 => ?_) (fun h1 => ?_)
 ·
  replace h1 := not_eq_true h1
  replace h1 := of_decide_eq_false h1
  refine WC.seq ?_
  refine Qa ?_
  refine WL.next ?_
  refine WC.ret ?_
  refine At.thenret ?_
  refine fin1' rfl Q0 ?_
  refine RetP.mk hs ?_
  have hne : ¬ a.l = b.l := by
   intro h
   have h2 := congrArg List.length h
   try simp at h2
   omega
  simp only [hne, decide_false]
 ·
  replace h1 := not_eq_false h1
  replace h1 := of_decide_eq_true h1
  refine WC.skipn ?_
  refine WC.seq' ?_
  refine WC.seq ?_
  refine Qa ?_
  refine WL.next ?_
  refine WC.block ?_
  refine WC.loopC (ι := Nat) (fun k => a.l.length - k) (fun k => [(5, I (k : Int))]) (fun _ => []) (fun k => decide (a.l = b.l) = decide (a.l.drop k = b.l.drop k)) [(0, _), (1, _), (10, _)] 0 (hs) ⟨by rfl, by rfl, by rfl, trivial⟩ ⟨by rfl, trivial⟩ ?_ ?_
  ·
   simp
  clear hs; rintro k w hJ hs
  simp only [List.nil_append] at hs
  refine WC.seq' ?_
  refine WC.seq ?_
  refine Qm ?_
  refine Qm ?_
  refine WL.p Q0 (Yl.len_sl slu163 Q0) ?_
  refine WL.p Q0 (Yl.lss Q0 Q0) ?_
  refine WL.next ?_
  refine WC.condS Q0 (fun h2 => ?_) (fun h2 => ?_)
  ·
   replace h2 := of_decide_eq_true h2
   obtain ⟨d, hd⟩ := exists_get (l := a.l) (k := k) Q7
   obtain ⟨d2, hd2⟩ := exists_get (l := b.l) (k := k) Q7
   rw [drop_cons hd, drop_cons hd2] at hJ
   refine WC.skipn ?_
   refine WC.seq' ?_
   refine WC.block ?_
   refine WC.quietn mixed Q6 hs ?_
   refine WQ.p Q0 (fun w hs => Yl.move Q0) ?_
   refine WQ.p Q0 (fun w hs => Yl.move Q0) ?_
   refine WQ.p Q0 (fun w hs => Yl.indexAddr slt163 Q0 Q0 (Ph.old h_a hs) Q0 (hd)) ?_
   refine WQ.p Q0 (fun w hs => Yl.loadA agg255 Q0 (Sl.Ok.at_ (Ph.old h_a hs) (by assumption)).2 Q0) ?_
   refine WQ.p Q0 (fun w hs => Yl.move Q0) ?_
   refine WQ.p Q0 (fun w hs => Yl.move Q0) ?_
   refine WQ.p Q0 (fun w hs => Yl.indexAddr slt163 Q0 Q0 (Ph.old h_b hs) Q0 (hd2)) ?_
   refine WQ.p Q0 (fun w hs => Yl.loadA agg255 Q0 (Sl.Ok.at_ (Ph.old h_b hs) (by assumption)).2 Q0) ?_
   refine WQ.callp Q0 (fun w => Yc.func Q0 fn333) (fun w hs => (c_laws_eqAttr _ _ _)) (fun _ _ hs hb => hs.ext hb) ?_
   refine WQ.p Q0 (fun w hs => Yl.not Q0) ?_
   refine WQ.next ?_
   clear hs; intro w hs
   refine WC.condS Q0 (fun h3 => ?_) (fun h3 => ?_)
   ·
    replace h3 := not_eq_true h3
    replace h3 := of_decide_eq_false h3
    refine WC.seq ?_
    refine Qa ?_
    refine WL.next ?_
    refine WC.ret ?_
    refine At.blockret ?_
    refine At.thenret ?_
    refine At.thenret ?_
    refine At.blockret ?_
    refine At.thenret ?_
    refine fin1' rfl Q0 ?_
    refine RetP.mk hs ?_
    rw [hJ]; simp_all
   ·
    replace h3 := not_eq_false h3
    replace h3 := of_decide_eq_true h3
    refine WC.skip ?_
    refine At.blocknormal ?_
    refine At.then_ ?_
    refine WC.region ?_
    refine Qm ?_
    refine WL.p Q0 (Yl.add Q0 Q0 Q7) ?_
    refine Qa ?_
    refine WL.nil ?_
    refine At.roundC (k + 1) (hs.only Q2) ⟨by rfl, by rfl, by rfl, trivial⟩ ⟨by rfl, trivial⟩ ?_ ?_
    ·
     omega
    ·
     rw [hJ]; simp_all
  ·
   replace h2 := of_decide_eq_false h2
   rw [drop_out (l := a.l) Q7, drop_out (l := b.l) Q7] at hJ
   refine WC.exit ?_
   refine At.thenexit ?_
   refine At.thenexit ?_
   refine At.blockexit ?_
   refine At.then_ ?_
   refine WC.seq ?_
   refine Qa ?_
   refine WL.next ?_
   refine WC.ret ?_
   refine fin1' rfl Q0 ?_
   refine RetP.mk hs ?_
   rw [hJ]; simp_all

theorem c_laws_eqNode (a : PNode) (b : PNode) (w : World) (h_a : Ph.ok w a) (h_b : Ph.ok w b)  : Calls Tryz.prog 223 [.agg #[S a.name, S a.text, I a.parent, Sl.v a.attrs], .agg #[S b.name, S b.text, I b.parent, Sl.v b.attrs]].toArray w (RetP w (Bo (decide (a.lg = b.lg)))) := by
 refine enterN 26 Tryz.func223 rfl rfl rfl ?_
 have hs := Sat.start w
 refine WC.seq ?_
 refine WL.r Q0 (Yr.box hs Q0 Q0) ?_
 clear hs; rintro _ w ⟨b1, rfl, hb, hs⟩; clear hb
 refine WL.r Q0 (Yr.box hs Q0 Q0) ?_
 clear hs; rintro _ w ⟨b2, rfl, hb, hs⟩; clear hb
 refine Qa ?_
 refine WL.next ?_
 refine WC.seq' ?_
 refine WC.seq ?_
 refine WL.p Q0 (Yl.fieldAddr fa165_0 Q0) ?_
 refine WL.p Q0 (Yl.loadB sca9 Q0 hs Q1 Q0) ?_
 refine WL.p Q0 (Yl.fieldAddr fa165_0 Q0) ?_
 refine WL.p Q0 (Yl.loadB sca9 Q0 hs Q1 Q0) ?_
 refine WL.p Q0 (Yl.nes Q0 Q0) ?_
 refine WL.next ?_
 refine WC.condS Q0 (fun h1 => ?_) (fun h1 => ?_)
 ·
  replace h1 := not_eq_true h1
  replace h1 := of_decide_eq_false h1
  refine WC.seq ?_
  refine Qa ?_
  refine WL.next ?_
  refine WC.ret ?_
  refine At.thenret ?_
  refine fin1' rfl Q0 ?_
  refine RetP.mk hs ?_
  simp_all [TNode.ext_iff]
 ·
  replace h1 := not_eq_false h1
  replace h1 := of_decide_eq_true h1
  refine WC.skipn ?_
  refine WC.seq' ?_
  refine WC.seq ?_
  refine WL.p Q0 (Yl.fieldAddr fa165_1 Q0) ?_
  refine WL.p Q0 (Yl.loadB sca9 Q0 hs Q1 Q0) ?_
  refine WL.p Q0 (Yl.fieldAddr fa165_1 Q0) ?_
  refine WL.p Q0 (Yl.loadB sca9 Q0 hs Q1 Q0) ?_
  refine WL.p Q0 (Yl.nes Q0 Q0) ?_
  refine WL.next ?_
  refine WC.condS Q0 (fun h2 => ?_) (fun h2 => ?_)
  ·
   replace h2 := not_eq_true h2
   replace h2 := of_decide_eq_false h2
   refine WC.seq ?_
   refine Qa ?_
   refine WL.next ?_
   refine WC.ret ?_
   refine At.thenret ?_
   refine fin1' rfl Q0 ?_
   refine RetP.mk hs ?_
   simp_all [TNode.ext_iff]
  ·
   replace h2 := not_eq_false h2
   replace h2 := of_decide_eq_true h2
   refine WC.skipn ?_
   refine WC.seq' ?_
   refine WC.seq ?_
   refine WL.p Q0 (Yl.fieldAddr fa165_2 Q0) ?_
   refine WL.p Q0 (Yl.loadB sca3 Q0 hs Q1 Q0) ?_
   refine WL.p Q0 (Yl.fieldAddr fa165_2 Q0) ?_
   refine WL.p Q0 (Yl.loadB sca3 Q0 hs Q1 Q0) ?_
   refine WL.p Q0 (Yl.nei Q0 Q0) ?_
   refine WL.next ?_
   refine WC.condS Q0 (fun h3 => ?_) (fun h3 => ?_)
   ·
    replace h3 := not_eq_true h3
    replace h3 := of_decide_eq_false h3
    refine WC.seq ?_
    refine Qa ?_
    refine WL.next ?_
    refine WC.ret ?_
    refine At.thenret ?_
    refine fin1' rfl Q0 ?_
    refine RetP.mk hs ?_
    simp_all [TNode.ext_iff]
   ·
    replace h3 := not_eq_false h3
    replace h3 := of_decide_eq_true h3
    refine WC.skipn ?_
    refine WC.seq' ?_
    refine WC.seq ?_
    refine WL.p Q0 (Yl.fieldAddr fa165_3 Q0) ?_
    refine WL.p Q0 (Yl.loadB sca163 Q0 hs Q1 Q0) ?_
    refine WL.p Q0 (Yl.fieldAddr fa165_3 Q0) ?_
    refine WL.p Q0 (Yl.loadB sca163 Q0 hs Q1 Q0) ?_
    refine WL.callp hs Q0 (Yc.func Q0 fn284) (c_laws_eqAttrS _ _ _ (Ph.old h_a.attrs hs) (Ph.old h_b.attrs hs)) ?_
    clear hs; intro w hs
    refine WL.p Q0 (Yl.not Q0) ?_
    refine WL.next ?_
    refine WC.condS Q0 (fun h4 => ?_) (fun h4 => ?_)
    ·
     replace h4 := not_eq_true h4
     replace h4 := of_decide_eq_false h4
     refine WC.seq ?_
     refine Qa ?_
     refine WL.next ?_
     refine WC.ret ?_
     refine At.thenret ?_
     refine fin1' rfl Q0 ?_
     refine RetP.mk hs ?_
     simp_all [TNode.ext_iff]
    ·
     replace h4 := not_eq_false h4
     replace h4 := of_decide_eq_true h4
     refine WC.skipn ?_
     refine WC.seq ?_
     refine Qa ?_
     refine WL.next ?_
     refine WC.ret ?_
     refine fin1' rfl Q0 ?_
     refine RetP.mk hs ?_
     simp_all [TNode.ext_iff]

theorem c_laws_eqNodeS (a : (Sl PNode)) (b : (Sl PNode)) (w : World) (h_a : Ph.ok w a) (h_b : Ph.ok w b)  : Calls Tryz.prog 148 [Sl.v a, Sl.v b].toArray w (RetP w (Bo (decide ((a.l).map PNode.lg = (b.l).map PNode.lg)))) := by
 have hw := h_a.lt
 refine enterN 27 Tryz.func148 rfl rfl rfl ?_
 have hs := Sat.start w
 refine WC.seq ?_
 refine Qa ?_
 refine WL.next ?_
 refine WC.seq' ?_
 refine WC.seq ?_
 refine Qm ?_
 refine WL.p Q0 (Yl.len_sl slu61 Q0) ?_
 refine Qm ?_
 refine WL.p Q0 (Yl.len_sl slu61 Q0) ?_
 refine WL.p Q0 (Yl.nei Q0 Q0) ?_
 refine WL.next ?_
 refine WC.condS Q0 (fun h1 => ?_) (fun h1 => ?_)
 ·
  replace h1 := not_eq_true h1
  replace h1 := of_decide_eq_false h1
  refine WC.seq ?_
  refine Qa ?_
  refine WL.next ?_
  refine WC.ret ?_
  refine At.thenret ?_
  refine fin1' rfl Q0 ?_
  refine RetP.mk hs ?_
  have hne : ¬ (a.l).map PNode.lg = (b.l).map PNode.lg := by
   intro h
   have h2 := congrArg List.length h
   try simp at h2
   omega
  simp only [hne, decide_false]
 ·
  replace h1 := not_eq_false h1
  replace h1 := of_decide_eq_true h1
  refine WC.skipn ?_
  refine WC.seq' ?_
  refine WC.seq ?_
  refine Qa ?_
  refine WL.next ?_
  refine WC.block ?_
  refine WC.loopC (ι := Nat) (fun k => a.l.length - k) (fun k => [(5, I (k : Int))]) (fun _ => []) (fun k => decide ((a.l).map PNode.lg = (b.l).map PNode.lg) = decide ((a.l.drop k).map PNode.lg = (b.l.drop k).map PNode.lg)) [(0, _), (1, _), (10, _)] 0 (hs) ⟨by rfl, by rfl, by rfl, trivial⟩ ⟨by rfl, trivial⟩ ?_ ?_
  ·
   simp
  clear hs; rintro k w hJ hs
  simp only [List.nil_append] at hs
  refine WC.seq' ?_
  refine WC.seq ?_
  refine Qm ?_
  refine Qm ?_
  refine WL.p Q0 (Yl.len_sl slu61 Q0) ?_
  refine WL.p Q0 (Yl.lss Q0 Q0) ?_
  refine WL.next ?_
  refine WC.condS Q0 (fun h2 => ?_) (fun h2 => ?_)
  ·
   replace h2 := of_decide_eq_true h2
   obtain ⟨d, hd⟩ := exists_get (l := a.l) (k := k) Q7
   obtain ⟨d2, hd2⟩ := exists_get (l := b.l) (k := k) Q7
   rw [drop_cons hd, drop_cons hd2] at hJ
   refine WC.skipn ?_
   refine WC.seq' ?_
   refine WC.block ?_
   refine WC.quietn mixed Q6 hs ?_
   refine WQ.p Q0 (fun w hs => Yl.move Q0) ?_
   refine WQ.p Q0 (fun w hs => Yl.move Q0) ?_
   refine WQ.p Q0 (fun w hs => Yl.indexAddr slt61 Q0 Q0 (Ph.old h_a hs) Q0 (hd)) ?_
   refine WQ.p Q0 (fun w hs => Yl.loadA agg165 Q0 (Sl.Ok.at_ (Ph.old h_a hs) (by assumption)).2 Q0) ?_
   refine WQ.p Q0 (fun w hs => Yl.move Q0) ?_
   refine WQ.p Q0 (fun w hs => Yl.move Q0) ?_
   refine WQ.p Q0 (fun w hs => Yl.indexAddr slt61 Q0 Q0 (Ph.old h_b hs) Q0 (hd2)) ?_
   refine WQ.p Q0 (fun w hs => Yl.loadA agg165 Q0 (Sl.Ok.at_ (Ph.old h_b hs) (by assumption)).2 Q0) ?_
   refine WQ.callp Q0 (fun w => Yc.func Q0 fn223) (fun w hs => (c_laws_eqNode _ _ _ (Ph.old (Sl.Ok.elem h_a hd) hs) (Ph.old (Sl.Ok.elem h_b hd2) hs))) (fun _ _ hs hb => hs.ext hb) ?_
   refine WQ.p Q0 (fun w hs => Yl.not Q0) ?_
   refine WQ.next ?_
   clear hs; intro w hs
   refine WC.condS Q0 (fun h3 => ?_) (fun h3 => ?_)
   ·
    replace h3 := not_eq_true h3
    replace h3 := of_decide_eq_false h3
    refine WC.seq ?_
    refine Qa ?_
    refine WL.next ?_
    refine WC.ret ?_
    refine At.blockret ?_
    refine At.thenret ?_
    refine At.thenret ?_
    refine At.blockret ?_
    refine At.thenret ?_
    refine fin1' rfl Q0 ?_
    refine RetP.mk hs ?_
    rw [hJ]; simp_all
   ·
    replace h3 := not_eq_false h3
    replace h3 := of_decide_eq_true h3
    refine WC.skip ?_
    refine At.blocknormal ?_
    refine At.then_ ?_
    refine WC.region ?_
    refine Qm ?_
    refine WL.p Q0 (Yl.add Q0 Q0 Q7) ?_
    refine Qa ?_
    refine WL.nil ?_
    refine At.roundC (k + 1) (hs.only Q2) ⟨by rfl, by rfl, by rfl, trivial⟩ ⟨by rfl, trivial⟩ ?_ ?_
    ·
     omega
    ·
     rw [hJ]; simp_all
  ·
   replace h2 := of_decide_eq_false h2
   rw [drop_out (l := a.l) Q7, drop_out (l := b.l) Q7] at hJ
   refine WC.exit ?_
   refine At.thenexit ?_
   refine At.thenexit ?_
   refine At.blockexit ?_
   refine At.then_ ?_
   refine WC.seq ?_
   refine Qa ?_
   refine WL.next ?_
   refine WC.ret ?_
   refine fin1' rfl Q0 ?_
   refine RetP.mk hs ?_
   rw [hJ]; simp_all

theorem c_laws_eqIntS (a : (Sl Int)) (b : (Sl Int)) (w : World) (h_a : Ph.ok w a) (h_b : Ph.ok w b)  : Calls Tryz.prog 149 [Sl.v a, Sl.v b].toArray w (RetP w (Bo (decide (a.l = b.l)))) := by
 have hw := h_a.lt
 refine enterN 26 Tryz.func149 rfl rfl rfl ?_
 have hs := Sat.start w
 refine WC.seq ?_
 refine Qa ?_
 refine WL.next ?_
 refine WC.seq' ?_
 refine WC.seq ?_
 refine Qm ?_
 refine WL.p Q0 (Yl.len_sl slu62 Q0) ?_
 refine Qm ?_
 refine WL.p Q0 (Yl.len_sl slu62 Q0) ?_
 refine WL.p Q0 (Yl.nei Q0 Q0) ?_
 refine WL.next ?_
 refine WC.condS Q0 (fun h1 => ?_) (fun h1 => ?_)
 ·
  replace h1 := not_eq_true h1
  replace h1 := of_decide_eq_false h1
  refine WC.seq ?_
  refine Qa ?_
  refine WL.next ?_
  refine WC.ret ?_
  refine At.thenret ?_
  refine fin1' rfl Q0 ?_
  refine RetP.mk hs ?_
  have hne : ¬ a.l = b.l := by
   intro h
   have h2 := congrArg List.length h
   try simp at h2
   omega
  simp only [hne, decide_false]
 ·
  replace h1 := not_eq_false h1
  replace h1 := of_decide_eq_true h1
  refine WC.skipn ?_
  refine WC.seq' ?_
  refine WC.seq ?_
  refine Qa ?_
  refine WL.next ?_
  refine WC.block ?_
  refine WC.loopC (ι := Nat) (fun k => a.l.length - k) (fun k => [(5, I (k : Int))]) (fun _ => []) (fun k => decide (a.l = b.l) = decide (a.l.drop k = b.l.drop k)) [(0, _), (1, _), (10, _)] 0 (hs) ⟨by rfl, by rfl, by rfl, trivial⟩ ⟨by rfl, trivial⟩ ?_ ?_
  ·
   simp
  clear hs; rintro k w hJ hs
  simp only [List.nil_append] at hs
  refine WC.seq' ?_
  refine WC.seq ?_
  refine Qm ?_
  refine Qm ?_
  refine WL.p Q0 (Yl.len_sl slu62 Q0) ?_
  refine WL.p Q0 (Yl.lss Q0 Q0) ?_
  refine WL.next ?_
  refine WC.condS Q0 (fun h2 => ?_) (fun h2 => ?_)
  ·
   replace h2 := of_decide_eq_true h2
   obtain ⟨d, hd⟩ := exists_get (l := a.l) (k := k) Q7
   obtain ⟨d2, hd2⟩ := exists_get (l := b.l) (k := k) Q7
   rw [drop_cons hd, drop_cons hd2] at hJ
   refine WC.skipn ?_
   refine WC.seq' ?_
   refine WC.block ?_
   refine WC.quietn mixed Q6 hs ?_
   refine WQ.p Q0 (fun w hs => Yl.move Q0) ?_
   refine WQ.p Q0 (fun w hs => Yl.move Q0) ?_
   refine WQ.p Q0 (fun w hs => Yl.indexAddr slt62 Q0 Q0 (Ph.old h_a hs) Q0 (hd)) ?_
   refine WQ.p Q0 (fun w hs => Yl.loadC0 sca3 Q0 (Sl.Ok.at_ (Ph.old h_a hs) (by assumption)).2 Q0) ?_
   refine WQ.p Q0 (fun w hs => Yl.move Q0) ?_
   refine WQ.p Q0 (fun w hs => Yl.move Q0) ?_
   refine WQ.p Q0 (fun w hs => Yl.indexAddr slt62 Q0 Q0 (Ph.old h_b hs) Q0 (hd2)) ?_
   refine WQ.p Q0 (fun w hs => Yl.loadC0 sca3 Q0 (Sl.Ok.at_ (Ph.old h_b hs) (by assumption)).2 Q0) ?_
   refine WQ.p Q0 (fun w hs => Yl.nei Q0 Q0) ?_
   refine WQ.next ?_
   clear hs; intro w hs
   refine WC.condS Q0 (fun h3 => ?_) (fun h3 => ?_)
   ·
    replace h3 := not_eq_true h3
    replace h3 := of_decide_eq_false h3
    refine WC.seq ?_
    refine Qa ?_
    refine WL.next ?_
    refine WC.ret ?_
    refine At.blockret ?_
    refine At.thenret ?_
    refine At.thenret ?_
    refine At.blockret ?_
    refine At.thenret ?_
    refine fin1' rfl Q0 ?_
    refine RetP.mk hs ?_
    rw [hJ]; simp_all
   ·
    replace h3 := not_eq_false h3
    replace h3 := of_decide_eq_true h3
    refine WC.skip ?_
    refine At.blocknormal ?_
    refine At.then_ ?_
    refine WC.region ?_
    refine Qm ?_
    refine WL.p Q0 (Yl.add Q0 Q0 Q7) ?_
    refine Qa ?_
    refine WL.nil ?_
    refine At.roundC (k + 1) (hs.only Q2) ⟨by rfl, by rfl, by rfl, trivial⟩ ⟨by rfl, trivial⟩ ?_ ?_
    ·
     omega
    ·
     rw [hJ]; simp_all
  ·
   replace h2 := of_decide_eq_false h2
   rw [drop_out (l := a.l) Q7, drop_out (l := b.l) Q7] at hJ
   refine WC.exit ?_
   refine At.thenexit ?_
   refine At.thenexit ?_
   refine At.blockexit ?_
   refine At.then_ ?_
   refine WC.seq ?_
   refine Qa ?_
   refine WL.next ?_
   refine WC.ret ?_
   refine fin1' rfl Q0 ?_
   refine RetP.mk hs ?_
   rw [hJ]; simp_all

theorem c_laws_eqBuilder (a : PBuilder) (b : PBuilder) (w : World) (h_a : Ph.ok w a) (h_b : Ph.ok w b)  : Calls Tryz.prog 55 [.agg #[Sl.v a.nodes, Sl.v a.opn], .agg #[Sl.v b.nodes, Sl.v b.opn]].toArray w (RetP w (Bo (decide (a.lg = b.lg)))) := by
 refine enterN 17 Tryz.func55 rfl rfl rfl ?_
 have hs := Sat.start w
 refine WC.seq ?_
 refine WL.r Q0 (Yr.box hs Q0 Q0) ?_
 clear hs; rintro _ w ⟨b1, rfl, hb, hs⟩; clear hb
 refine WL.r Q0 (Yr.box hs Q0 Q0) ?_
 clear hs; rintro _ w ⟨b2, rfl, hb, hs⟩; clear hb
 refine Qa ?_
 refine WL.next ?_
 refine WC.seq' ?_
 refine WC.seq ?_
 refine WL.p Q0 (Yl.fieldAddr fa64_0 Q0) ?_
 refine WL.p Q0 (Yl.loadB sca61 Q0 hs Q1 Q0) ?_
 refine WL.p Q0 (Yl.fieldAddr fa64_0 Q0) ?_
 refine WL.p Q0 (Yl.loadB sca61 Q0 hs Q1 Q0) ?_
 refine WL.callp hs Q0 (Yc.func Q0 fn148) (c_laws_eqNodeS _ _ _ (Ph.old h_a.nodes hs) (Ph.old h_b.nodes hs)) ?_
 clear hs; intro w hs
 refine WL.p Q0 (Yl.not Q0) ?_
 refine WL.next ?_
 refine WC.condS Q0 (fun h1 => ?_) (fun h1 => ?_)
 ·
  replace h1 := not_eq_true h1
  replace h1 := of_decide_eq_false h1
  refine WC.seq ?_
  refine Qa ?_
  refine WL.next ?_
  refine WC.ret ?_
  refine At.thenret ?_
  refine fin1' rfl Q0 ?_
  refine RetP.mk hs ?_
  simp_all [TBuilder.ext_iff]
 ·
  replace h1 := not_eq_false h1
  replace h1 := of_decide_eq_true h1
  refine WC.skipn ?_
  refine WC.seq' ?_
  refine WC.seq ?_
  refine WL.p Q0 (Yl.fieldAddr fa64_1 Q0) ?_
  refine WL.p Q0 (Yl.loadB sca62 Q0 hs Q1 Q0) ?_
  refine WL.p Q0 (Yl.fieldAddr fa64_1 Q0) ?_
  refine WL.p Q0 (Yl.loadB sca62 Q0 hs Q1 Q0) ?_
  refine WL.callp hs Q0 (Yc.func Q0 fn149) (c_laws_eqIntS _ _ _ (Ph.old h_a.opn hs) (Ph.old h_b.opn hs)) ?_
  clear hs; intro w hs
  refine WL.p Q0 (Yl.not Q0) ?_
  refine WL.next ?_
  refine WC.condS Q0 (fun h2 => ?_) (fun h2 => ?_)
  ·
   replace h2 := not_eq_true h2
   replace h2 := of_decide_eq_false h2
   refine WC.seq ?_
   refine Qa ?_
   refine WL.next ?_
   refine WC.ret ?_
   refine At.thenret ?_
   refine fin1' rfl Q0 ?_
   refine RetP.mk hs ?_
   simp_all [TBuilder.ext_iff]
  ·
   replace h2 := not_eq_false h2
   replace h2 := of_decide_eq_true h2
   refine WC.skipn ?_
   refine WC.seq ?_
   refine Qa ?_
   refine WL.next ?_
   refine WC.ret ?_
   refine fin1' rfl Q0 ?_
   refine RetP.mk hs ?_
   simp_all [TBuilder.ext_iff]

theorem c_laws_eqRule (a : TRule) (b : TRule) (w : World)   : Calls Tryz.prog 285 [.agg #[S a.name, I a.color], .agg #[S b.name, I b.color]].toArray w (RetP w (Bo (decide (a = b)))) := by
 refine enterN 15 Tryz.func285 rfl rfl rfl ?_
 have hs := Sat.start w
 refine WC.seq ?_
 refine WL.r Q0 (Yr.box hs Q0 Q0) ?_
 clear hs; rintro _ w ⟨b1, rfl, hb, hs⟩; clear hb
 refine WL.r Q0 (Yr.box hs Q0 Q0) ?_
 clear hs; rintro _ w ⟨b2, rfl, hb, hs⟩; clear hb
 refine Qa ?_
 refine WL.next ?_
 refine WC.seq' ?_
 refine WC.seq ?_
 refine WL.p Q0 (Yl.fieldAddr fa60_0 Q0) ?_
 refine WL.p Q0 (Yl.loadB sca9 Q0 hs Q1 Q0) ?_
 refine WL.p Q0 (Yl.fieldAddr fa60_0 Q0) ?_
 refine WL.p Q0 (Yl.loadB sca9 Q0 hs Q1 Q0) ?_
 refine WL.p Q0 (Yl.nes Q0 Q0) ?_
 refine WL.next ?_
 refine WC.condS Q0 (fun h1 => ?_) (fun h1 => ?_)
 ·
  replace h1 := not_eq_true h1
  replace h1 := of_decide_eq_false h1
  refine WC.seq ?_
  refine Qa ?_
  refine WL.next ?_
  refine WC.ret ?_
  refine At.thenret ?_
  refine fin1' rfl Q0 ?_
  refine RetP.mk hs ?_
  simp_all [TRule.ext_iff]
 ·
  replace h1 := not_eq_false h1
  replace h1 := of_decide_eq_true h1
  refine WC.skipn ?_
  refine WC.seq' ?_
  refine WC.seq ?_
  refine WL.p Q0 (Yl.fieldAddr fa60_1 Q0) ?_
  refine WL.p Q0 (Yl.loadB sca3 Q0 hs Q1 Q0) ?_
  refine WL.p Q0 (Yl.fieldAddr fa60_1 Q0) ?_
  refine WL.p Q0 (Yl.loadB sca3 Q0 hs Q1 Q0) ?_
  refine WL.p Q0 (Yl.nei Q0 Q0) ?_
  refine WL.next ?_
  refine WC.condS Q0 (fun h2 => ?_) (fun h2 => ?_)
  ·
   replace h2 := not_eq_true h2
   replace h2 := of_decide_eq_false h2
   refine WC.seq ?_
   refine Qa ?_
   refine WL.next ?_
   refine WC.ret ?_
   refine At.thenret ?_
   refine fin1' rfl Q0 ?_
   refine RetP.mk hs ?_
   simp_all [TRule.ext_iff]
  ·
   replace h2 := not_eq_false h2
   replace h2 := of_decide_eq_true h2
   refine WC.skipn ?_
   refine WC.seq ?_
   refine Qa ?_
   refine WL.next ?_
   refine WC.ret ?_
   refine fin1' rfl Q0 ?_
   refine RetP.mk hs ?_
   simp_all [TRule.ext_iff]

theorem c_laws_eqRuleS (a : (Sl TRule)) (b : (Sl TRule)) (w : World) (h_a : Ph.ok w a) (h_b : Ph.ok w b)  : Calls Tryz.prog 224 [Sl.v a, Sl.v b].toArray w (RetP w (Bo (decide (a.l = b.l)))) := by
 have hw := h_a.lt
 refine enterN 27 Tryz.func224 rfl rfl rfl ?_
 have hs := Sat.start w
 refine WC.seq ?_
 refine Qa ?_
 refine WL.next ?_
 refine WC.seq' ?_
 refine WC.seq ?_
 refine Qm ?_
 refine WL.p Q0 (Yl.len_sl slu49 Q0) ?_
 refine Qm ?_
 refine WL.p Q0 (Yl.len_sl slu49 Q0) ?_
 refine WL.p Q0 (Yl.nei Q0 Q0) ?_
 refine WL.next ?_
 refine WC.condS Q0 (fun h1 => ?_) (fun h1 => ?_)
 ·
  replace h1 := not_eq_true h1
  replace h1 := of_decide_eq_false h1
  refine WC.seq ?_
  refine Qa ?_
  refine WL.next ?_
  refine WC.ret ?_
  refine At.thenret ?_
  refine fin1' rfl Q0 ?_
  refine RetP.mk hs ?_
  have hne : ¬ a.l = b.l := by
   intro h
   have h2 := congrArg List.length h
   try simp at h2
   omega
  simp only [hne, decide_false]
 ·
  replace h1 := not_eq_false h1
  replace h1 := of_decide_eq_true h1
  refine WC.skipn ?_
  refine WC.seq' ?_
  refine WC.seq ?_
  refine Qa ?_
  refine WL.next ?_
  refine WC.block ?_
  refine WC.loopC (ι := Nat) (fun k => a.l.length - k) (fun k => [(5, I (k : Int))]) (fun _ => []) (fun k => decide (a.l = b.l) = decide (a.l.drop k = b.l.drop k)) [(0, _), (1, _), (10, _)] 0 (hs) ⟨by rfl, by rfl, by rfl, trivial⟩ ⟨by rfl, trivial⟩ ?_ ?_
  ·
   simp
  clear hs; rintro k w hJ hs
  simp only [List.nil_append] at hs
  refine WC.seq' ?_
  refine WC.seq ?_
  refine Qm ?_
  refine Qm ?_
  refine WL.p Q0 (Yl.len_sl slu49 Q0) ?_
  refine WL.p Q0 (Yl.lss Q0 Q0) ?_
  refine WL.next ?_
  refine WC.condS Q0 (fun h2 => ?_) (fun h2 => ?_)
  ·
   replace h2 := of_decide_eq_true h2
   obtain ⟨d, hd⟩ := exists_get (l := a.l) (k := k) Q7
   obtain ⟨d2, hd2⟩ := exists_get (l := b.l) (k := k) Q7
   rw [drop_cons hd, drop_cons hd2] at hJ
   refine WC.skipn ?_
   refine WC.seq' ?_
   refine WC.block ?_
   refine WC.quietn mixed Q6 hs ?_
   refine WQ.p Q0 (fun w hs => Yl.move Q0) ?_
   refine WQ.p Q0 (fun w hs => Yl.move Q0) ?_
   refine WQ.p Q0 (fun w hs => Yl.indexAddr slt49 Q0 Q0 (Ph.old h_a hs) Q0 (hd)) ?_
   refine WQ.p Q0 (fun w hs => Yl.loadA agg60 Q0 (Sl.Ok.at_ (Ph.old h_a hs) (by assumption)).2 Q0) ?_
   refine WQ.p Q0 (fun w hs => Yl.move Q0) ?_
   refine WQ.p Q0 (fun w hs => Yl.move Q0) ?_
   refine WQ.p Q0 (fun w hs => Yl.indexAddr slt49 Q0 Q0 (Ph.old h_b hs) Q0 (hd2)) ?_
   refine WQ.p Q0 (fun w hs => Yl.loadA agg60 Q0 (Sl.Ok.at_ (Ph.old h_b hs) (by assumption)).2 Q0) ?_
   refine WQ.callp Q0 (fun w => Yc.func Q0 fn285) (fun w hs => (c_laws_eqRule _ _ _)) (fun _ _ hs hb => hs.ext hb) ?_
   refine WQ.p Q0 (fun w hs => Yl.not Q0) ?_
   refine WQ.next ?_
   clear hs; intro w hs
   refine WC.condS Q0 (fun h3 => ?_) (fun h3 => ?_)
   ·
    replace h3 := not_eq_true h3
    replace h3 := of_decide_eq_false h3
    refine WC.seq ?_
    refine Qa ?_
    refine WL.next ?_
    refine WC.ret ?_
    refine At.blockret ?_
    refine At.thenret ?_
    refine At.thenret ?_
    refine At.blockret ?_
    refine At.thenret ?_
    refine fin1' rfl Q0 ?_
    refine RetP.mk hs ?_
    rw [hJ]; simp_all
   ·
    replace h3 := not_eq_false h3
    replace h3 := of_decide_eq_true h3
    refine WC.skip ?_
    refine At.blocknormal ?_
    refine At.then_ ?_
    refine WC.region ?_
    refine Qm ?_
    refine WL.p Q0 (Yl.add Q0 Q0 Q7) ?_
    refine Qa ?_
    refine WL.nil ?_
    refine At.roundC (k + 1) (hs.only Q2) ⟨by rfl, by rfl, by rfl, trivial⟩ ⟨by rfl, trivial⟩ ?_ ?_
    ·
     omega
    ·
     rw [hJ]; simp_all
  ·
   replace h2 := of_decide_eq_false h2
   rw [drop_out (l := a.l) Q7, drop_out (l := b.l) Q7] at hJ
   refine WC.exit ?_
   refine At.thenexit ?_
   refine At.thenexit ?_
   refine At.blockexit ?_
   refine At.then_ ?_
   refine WC.seq ?_
   refine Qa ?_
   refine WL.next ?_
   refine WC.ret ?_
   refine fin1' rfl Q0 ?_
   refine RetP.mk hs ?_
   rw [hJ]; simp_all

theorem c_laws_eqSheet (a : PSheet) (b : PSheet) (w : World) (h_a : Ph.ok w a) (h_b : Ph.ok w b)  : Calls Tryz.prog 150 [.agg #[Sl.v a.rules], .agg #[Sl.v b.rules]].toArray w (RetP w (Bo (decide (a.lg = b.lg)))) := by
 refine enterN 11 Tryz.func150 rfl rfl rfl ?_
 have hs := Sat.start w
 refine WC.seq ?_
 refine WL.r Q0 (Yr.box hs Q0 Q0) ?_
 clear hs; rintro _ w ⟨b1, rfl, hb, hs⟩; clear hb
 refine WL.r Q0 (Yr.box hs Q0 Q0) ?_
 clear hs; rintro _ w ⟨b2, rfl, hb, hs⟩; clear hb
 refine Qa ?_
 refine WL.next ?_
 refine WC.seq' ?_
 refine WC.seq ?_
 refine WL.p Q0 (Yl.fieldAddr fa51_0 Q0) ?_
 refine WL.p Q0 (Yl.loadB sca49 Q0 hs Q1 Q0) ?_
 refine WL.p Q0 (Yl.fieldAddr fa51_0 Q0) ?_
 refine WL.p Q0 (Yl.loadB sca49 Q0 hs Q1 Q0) ?_
 refine WL.callp hs Q0 (Yc.func Q0 fn224) (c_laws_eqRuleS _ _ _ (Ph.old h_a.rules hs) (Ph.old h_b.rules hs)) ?_
 clear hs; intro w hs
 refine WL.p Q0 (Yl.not Q0) ?_
 refine WL.next ?_
 refine WC.condS Q0 (fun h1 => ?_) (fun h1 => ?_)
 ·
  replace h1 := not_eq_true h1
  replace h1 := of_decide_eq_false h1
  refine WC.seq ?_
  refine Qa ?_
  refine WL.next ?_
  refine WC.ret ?_
  refine At.thenret ?_
  refine fin1' rfl Q0 ?_
  refine RetP.mk hs ?_
  simp_all [TSheet.ext_iff]
 ·
  replace h1 := not_eq_false h1
  replace h1 := of_decide_eq_true h1
  refine WC.skipn ?_
  refine WC.seq ?_
  refine Qa ?_
  refine WL.next ?_
  refine WC.ret ?_
  refine fin1' rfl Q0 ?_
  refine RetP.mk hs ?_
  simp_all [TSheet.ext_iff]

theorem c_laws_eqSheetS (a : (Sl PSheet)) (b : (Sl PSheet)) (w : World) (h_a : Ph.ok w a) (h_b : Ph.ok w b)  : Calls Tryz.prog 56 [Sl.v a, Sl.v b].toArray w (RetP w (Bo (decide ((a.l).map PSheet.lg = (b.l).map PSheet.lg)))) := by
 have hw := h_a.lt
 refine enterN 27 Tryz.func56 rfl rfl rfl ?_
 have hs := Sat.start w
 refine WC.seq ?_
 refine Qa ?_
 refine WL.next ?_
 refine WC.seq' ?_
 refine WC.seq ?_
 refine Qm ?_
 refine WL.p Q0 (Yl.len_sl slu54 Q0) ?_
 refine Qm ?_
 refine WL.p Q0 (Yl.len_sl slu54 Q0) ?_
 refine WL.p Q0 (Yl.nei Q0 Q0) ?_
 refine WL.next ?_
 refine WC.condS Q0 (fun h1 => ?_) (fun h1 => ?_)
 ·
  replace h1 := not_eq_true h1
  replace h1 := of_decide_eq_false h1
  refine WC.seq ?_
  refine Qa ?_
  refine WL.next ?_
  refine WC.ret ?_
  refine At.thenret ?_
  refine fin1' rfl Q0 ?_
  refine RetP.mk hs ?_
  have hne : ¬ (a.l).map PSheet.lg = (b.l).map PSheet.lg := by
   intro h
   have h2 := congrArg List.length h
   try simp at h2
   omega
  simp only [hne, decide_false]
 ·
  replace h1 := not_eq_false h1
  replace h1 := of_decide_eq_true h1
  refine WC.skipn ?_
  refine WC.seq' ?_
  refine WC.seq ?_
  refine Qa ?_
  refine WL.next ?_
  refine WC.block ?_
  refine WC.loopC (ι := Nat) (fun k => a.l.length - k) (fun k => [(5, I (k : Int))]) (fun _ => []) (fun k => decide ((a.l).map PSheet.lg = (b.l).map PSheet.lg) = decide ((a.l.drop k).map PSheet.lg = (b.l.drop k).map PSheet.lg)) [(0, _), (1, _), (10, _)] 0 (hs) ⟨by rfl, by rfl, by rfl, trivial⟩ ⟨by rfl, trivial⟩ ?_ ?_
  ·
   simp
  clear hs; rintro k w hJ hs
  simp only [List.nil_append] at hs
  refine WC.seq' ?_
  refine WC.seq ?_
  refine Qm ?_
  refine Qm ?_
  refine WL.p Q0 (Yl.len_sl slu54 Q0) ?_
  refine WL.p Q0 (Yl.lss Q0 Q0) ?_
  refine WL.next ?_
  refine WC.condS Q0 (fun h2 => ?_) (fun h2 => ?_)
  ·
   replace h2 := of_decide_eq_true h2
   obtain ⟨d, hd⟩ := exists_get (l := a.l) (k := k) Q7
   obtain ⟨d2, hd2⟩ := exists_get (l := b.l) (k := k) Q7
   rw [drop_cons hd, drop_cons hd2] at hJ
   refine WC.skipn ?_
   refine WC.seq' ?_
   refine WC.block ?_
   refine WC.quietn mixed Q6 hs ?_
   refine WQ.p Q0 (fun w hs => Yl.move Q0) ?_
   refine WQ.p Q0 (fun w hs => Yl.move Q0) ?_
   refine WQ.p Q0 (fun w hs => Yl.indexAddr slt54 Q0 Q0 (Ph.old h_a hs) Q0 (hd)) ?_
   refine WQ.p Q0 (fun w hs => Yl.loadA agg51 Q0 (Sl.Ok.at_ (Ph.old h_a hs) (by assumption)).2 Q0) ?_
   refine WQ.p Q0 (fun w hs => Yl.move Q0) ?_
   refine WQ.p Q0 (fun w hs => Yl.move Q0) ?_
   refine WQ.p Q0 (fun w hs => Yl.indexAddr slt54 Q0 Q0 (Ph.old h_b hs) Q0 (hd2)) ?_
   refine WQ.p Q0 (fun w hs => Yl.loadA agg51 Q0 (Sl.Ok.at_ (Ph.old h_b hs) (by assumption)).2 Q0) ?_
   refine WQ.callp Q0 (fun w => Yc.func Q0 fn150) (fun w hs => (c_laws_eqSheet _ _ _ (Ph.old (Sl.Ok.elem h_a hd) hs) (Ph.old (Sl.Ok.elem h_b hd2) hs))) (fun _ _ hs hb => hs.ext hb) ?_
   refine WQ.p Q0 (fun w hs => Yl.not Q0) ?_
   refine WQ.next ?_
   clear hs; intro w hs
   refine WC.condS Q0 (fun h3 => ?_) (fun h3 => ?_)
   ·
    replace h3 := not_eq_true h3
    replace h3 := of_decide_eq_false h3
    refine WC.seq ?_
    refine Qa ?_
    refine WL.next ?_
    refine WC.ret ?_
    refine At.blockret ?_
    refine At.thenret ?_
    refine At.thenret ?_
    refine At.blockret ?_
    refine At.thenret ?_
    refine fin1' rfl Q0 ?_
    refine RetP.mk hs ?_
    rw [hJ]; simp_all
   ·
    replace h3 := not_eq_false h3
    replace h3 := of_decide_eq_true h3
    refine WC.skip ?_
    refine At.blocknormal ?_
    refine At.then_ ?_
    refine WC.region ?_
    refine Qm ?_
    refine WL.p Q0 (Yl.add Q0 Q0 Q7) ?_
    refine Qa ?_
    refine WL.nil ?_
    refine At.roundC (k + 1) (hs.only Q2) ⟨by rfl, by rfl, by rfl, trivial⟩ ⟨by rfl, trivial⟩ ?_ ?_
    ·
     omega
    ·
     rw [hJ]; simp_all
  ·
   replace h2 := of_decide_eq_false h2
   rw [drop_out (l := a.l) Q7, drop_out (l := b.l) Q7] at hJ
   refine WC.exit ?_
   refine At.thenexit ?_
   refine At.thenexit ?_
   refine At.blockexit ?_
   refine At.then_ ?_
   refine WC.seq ?_
   refine Qa ?_
   refine WL.next ?_
   refine WC.ret ?_
   refine fin1' rfl Q0 ?_
   refine RetP.mk hs ?_
   rw [hJ]; simp_all

theorem c_laws_markText (k : Int) (w : World)  (hk : k ≤ 1000000000) : Calls Tryz.prog 172 [I k].toArray w (RetP w (S (mkT k))) := by
 refine enterN 20 Tryz.func172 rfl rfl rfl ?_
 have hs := Sat.start w
 refine WC.seq ?_
 refine Qa ?_
 refine WL.next ?_
 refine WC.seq' ?_
 refine WC.seq ?_
 refine Qm ?_
 refine WL.p Q0 (Yl.leq Q0 Q0) ?_
 refine WL.next ?_
 refine WC.condS Q0 (fun h1 => ?_) (fun h1 => ?_)
 ·
  replace h1 := of_decide_eq_true h1
  refine WC.seq ?_
  refine Qa ?_
  refine WL.next ?_
  refine WC.ret ?_
  refine At.thenret ?_
  refine fin1' rfl Q0 ?_
  refine RetP.mk hs ?_
  rw [mkT_out Q7]
 ·
  replace h1 := of_decide_eq_false h1
  refine WC.skipn ?_
  refine WC.seq ?_
  refine Qa ?_
  refine WL.next ?_
  refine WC.seq' ?_
  refine WC.block ?_
  refine WC.loopC (ι := Nat × Str) (fun ⟨n, o⟩ => n) (fun ⟨n, o⟩ => [(0, I (n : Int)), (3, S o)]) (fun _ => []) (fun ⟨n, o⟩ => digs k.toNat [] = digs n o ∧ o.length + n ≤ 1000000000) [(2, _), (5, _)] (k.toNat, []) (hs) ⟨by rfl, by rfl, trivial⟩ ⟨by exact congrArg (fun z => some (I z)) Q7, by rfl, trivial⟩ ?_ ?_
  ·
   exact ⟨rfl, by simp; omega⟩
  clear hs; rintro ⟨n, o⟩ w ⟨hJ1, hJ2⟩ hs
  simp only [List.nil_append] at hs
  refine WC.seq' ?_
  refine WC.seq ?_
  refine Qm ?_
  refine WL.p Q0 (Yl.gtr Q0 Q0) ?_
  refine WL.next ?_
  refine WC.condS Q0 (fun h2 => ?_) (fun h2 => ?_)
  ·
   replace h2 := of_decide_eq_true h2
   refine WC.skipn ?_
   refine WC.block ?_
   refine WC.seq ?_
   refine Qm ?_
   refine WL.p Q0 (Yl.remw Q0 Q0 (by decide)) ?_
   refine WL.p Q0 (Yl.add Q0 Q0 (by first | (rw [tmod10]; omega) | (simp; omega))) ?_
   refine WL.p Q0 (Yl.intByte (c := UInt8.ofNat (48 + n % 10)) Q6 u8t5 Q0 (by rw [digit_nat, tmod10]; omega)) ?_
   refine WL.r Q0 (Yr.buildSlice hs sll22 Q0 Q0 Q0 Q4 Q0) ?_
   clear hs; rintro _ w ⟨b1, rfl, hb, hs⟩; clear hb
   refine WL.p Q0 (Yl.bytesStr (l := [UInt8.ofNat (48 + n % 10)]) slu22 u8t5 str9 Q0 (hs.box_cells Q1) Q0 Q0) ?_
   refine Qm ?_
   refine WL.p Q0 (Yl.cat Q0 Q0 (by first | (rw [tmod10]; omega) | (simp; omega))) ?_
   refine Qa ?_
   refine WL.next ?_
   refine WC.region ?_
   refine Qm ?_
   refine WL.p Q0 (Yl.quow Q0 Q0 (by decide)) ?_
   refine Qa ?_
   refine WL.nil ?_
   refine At.blocknormal ?_
   refine At.roundC (n / 10, UInt8.ofNat (48 + n % 10) :: o) (hs.only Q2) ⟨by rfl, by rfl, trivial⟩ ⟨by exact congrArg (fun z => some (I z)) (quo10 Q7), by rfl, trivial⟩ ?_ ?_
   ·
    show n / 10 < n
    omega
   ·
    exact ⟨by rw [hJ1, digs_step Q7], by simp; omega⟩
  ·
   replace h2 := of_decide_eq_false h2
   refine WC.exit ?_
   refine At.thenexit ?_
   refine At.thenexit ?_
   refine At.blockexit ?_
   refine At.then_ ?_
   refine WC.seq ?_
   refine Qm ?_
   refine WL.p Q0 (Yl.cat Q0 Q0 (by first | (rw [tmod10]; omega) | (simp; omega))) ?_
   refine Qa ?_
   refine WL.next ?_
   refine WC.ret ?_
   refine fin1' rfl Q0 ?_
   refine RetP.mk hs ?_
   rw [mkT_in Q7, hJ1, show n = 0 from by omega, digs_zero]; rfl

theorem c_laws_markAttrS (a : (Sl TAttr)) (k : Int) (w : World) (F : List Nat) (hF : Own.own w a F) (hn : F.Nodup)  (hk0 : 0 ≤ k) (hk : k + ((costL (fun _ => 2) (a.l) : Nat) : Int) ≤ 100000000) : Calls Tryz.prog 225 [Sl.v a, I k].toArray w (RetM w a F (I (k + ((costL (fun _ => 2) (a.l) : Nat) : Int))) (fun a' => a'.l = mkL mkAttr (fun _ => 2) k (a.l))) := by
 have hw := (Own.ok hF : Sl.Ok w a).lt
 have hk2 := hk
 rw [costL_const] at hk2
 refine enterN 29 Tryz.func225 rfl rfl rfl ?_
 have hs := Sat.markStart hF hn
 refine WC.seq ?_
 refine Qa ?_
 refine WL.next ?_
 refine WC.seq' ?_
 refine WC.seq ?_
 refine Qa ?_
 refine WL.next ?_
 refine WC.block ?_
 refine WC.loopC (ι := Nat × Sl TAttr × List Nat × List TAttr) (fun ⟨n, s, F1, p⟩ => a.l.length - n) (fun ⟨n, s, F1, p⟩ => [(5, I (n : Int)), (1, I (k + ((2 * n : Nat) : Int))), (0, s.v)]) (fun ⟨n, s, F1, p⟩ => [ow s F1]) (fun ⟨n, s, F1, p⟩ => n ≤ a.l.length ∧ s.v = a.v ∧ p.length = n ∧ s.l = p ++ a.l.drop n ∧ p = mkL mkAttr (fun _ => 2) k (a.l.take n)) [(4, _)] (0, a, F, []) (hs.sel (D := [ow a F]) Q2) ⟨by rfl, trivial⟩ ⟨by rfl, by exact congrArg (fun z => some (I z)) Q7, by rfl, trivial⟩ ?_ ?_
 ·
  exact ⟨Nat.zero_le _, rfl, rfl, by simp, by simp [mkL]⟩
 clear hs; rintro ⟨n, s, F1, p⟩ w ⟨hJ1, hJ2, hJ3, hJ4, hJ5⟩ hs
 simp only [List.cons_append, List.nil_append] at hs
 refine WC.seq' ?_
 refine WC.seq ?_
 refine Qm ?_
 refine Qm ?_
 refine WL.p Q0 (Yl.len_sl slu163 Q0) ?_
 refine WL.p Q0 (Yl.lss Q0 Q0) ?_
 refine WL.next ?_
 refine WC.condS Q0 (fun h1 => ?_) (fun h1 => ?_)
 ·
  replace h1 := of_decide_eq_true h1
  have hsl : s.l.length = a.l.length := by rw [hJ4]; simp [hJ3]; omega
  obtain ⟨d, hd0⟩ := exists_get (l := a.l) (k := n) Q7
  have hd : s.l[n]? = some d := by rw [hJ4]; exact step_get hJ3 hd0
  have hkl : n < s.l.length := by omega
  refine WC.skipn ?_
  refine WC.seq' ?_
  refine WC.block ?_
  refine WC.seq ?_
  refine Qm ?_
  refine Qm ?_
  refine Qm ?_
  refine WL.callp hs Q0 (Yc.func Q0 fn172) (c_laws_markText _ _ Q7) ?_
  clear hs; intro w hs
  refine WL.p Q0 (Yl.indexAddr slt163 Q0 Q0 (hs.okow (x := s) (F := F1) Q1) Q0 (hd)) ?_
  refine WL.p Q0 (Yl.fieldAddr fa255_0 Q0) ?_
  refine WL.s (Yr.storeP (s := s) (F := F1) (d := d) (u := (⟨(mkT (k + ((2 * n : Nat) : Int))), d.value⟩ : TAttr)) (k := n) (j := 0) hs Q2 Q0 Q0 Q0 hd ⟨_, by rfl, by rfl⟩ Q3 (by exact own_part_flat ⟨(by first | exact (show WfS ((mkT (k + ((2 * n : Nat) : Int)))) from mkT_len Q7) | assumption | (refine Ph.old ?_ hs; assumption)), (Sl.Ok.elem (hs.okow (x := s) (F := F1) Q1) hd).value⟩) Q0 (by exact szf9)) ?_
  clear hs; rintro _ w ⟨s1, _, rfl, hv1, hl1, hg1, hs⟩
  refine WL.next ?_
  refine WC.seq ?_
  refine Qm ?_
  refine WL.p Q0 (Yl.add Q0 Q0 Q7) ?_
  refine Qa ?_
  refine WL.next ?_
  refine WC.seq ?_
  refine Qm ?_
  refine Qm ?_
  refine Qm ?_
  refine WL.callp hs Q0 (Yc.func Q0 fn172) (c_laws_markText _ _ Q7) ?_
  clear hs; intro w hs
  refine WL.p Q0 (Yl.indexAddrV slt163 Q0 hv1 Q0 (hs.okow (x := s1) (F := F1) Q1) Q0 (hg1)) ?_
  refine WL.p Q0 (Yl.fieldAddr fa255_1 Q0) ?_
  refine WL.s (Yr.storeP (s := s1) (F := F1) (d := (⟨(mkT (k + ((2 * n : Nat) : Int))), d.value⟩ : TAttr)) (u := (⟨(mkT (k + ((2 * n : Nat) : Int))), (mkT ((k + ((2 * n : Nat) : Int)) + 1))⟩ : TAttr)) (k := n) (j := 1) hs Q2 Q0 Q0 Q0 hg1 ⟨_, by rfl, by rfl⟩ Q3 (by exact own_part_flat ⟨(Sl.Ok.elem (hs.okow (x := s1) (F := F1) Q1) hg1).name, (by first | exact (show WfS ((mkT ((k + ((2 * n : Nat) : Int)) + 1))) from mkT_len Q7) | assumption | (refine Ph.old ?_ hs; assumption))⟩) Q0 (by exact szf9)) ?_
  clear hs; rintro _ w ⟨s2, _, rfl, hv2, hl2, hg2, hs⟩
  refine WL.next ?_
  refine WC.region ?_
  refine Qm ?_
  refine WL.p Q0 (Yl.add Q0 Q0 Q7) ?_
  refine Qa ?_
  refine WL.nil ?_
  refine At.blocknormal ?_
  refine At.then_ ?_
  refine WC.region ?_
  refine Qm ?_
  refine WL.p Q0 (Yl.add Q0 Q0 Q7) ?_
  refine Qa ?_
  refine WL.nil ?_
  refine At.roundC (n + 1, s2, F1, p ++ [(⟨(mkT (k + ((2 * n : Nat) : Int))), (mkT ((k + ((2 * n : Nat) : Int)) + 1))⟩ : TAttr)]) (hs.only Q2) ⟨by rfl, trivial⟩ ⟨by rfl, by exact congrArg (fun z => some (I z)) Q7, by exact congrArg some (hv2.trans hv1).symm, trivial⟩ ?_ ?_
  ·
   show a.l.length - (n + 1) < a.l.length - n
   omega
  ·
   refine ⟨by omega, (hv2.trans hv1).trans hJ2, by simp [hJ3], ?_, ?_⟩
   · rw [hl2, hl1]; (try simp only [List.set_set]); rw [hJ4]; exact step_set hJ3 Q7
   · rw [mkL_step hd0, hJ5, costL_take_const Q7]; rfl
 ·
  replace h1 := of_decide_eq_false h1
  refine WC.exit ?_
  refine At.thenexit ?_
  refine At.thenexit ?_
  refine At.blockexit ?_
  refine At.then_ ?_
  refine WC.seq ?_
  refine Qm ?_
  refine Qa ?_
  refine WL.next ?_
  refine WC.ret ?_
  refine fin1' rfl Q0 ?_
  have hsl : s.l.length = a.l.length := by rw [hJ4]; simp [hJ3]; omega
  have hn2 : n = a.l.length := by omega
  subst hn2
  rw [costL_const]
  refine RetM.cast (congrArg I Q7) ?_
  exact RetM.of hs Q1 (Sl.v_enc hJ2) (by rw [hJ4, List.drop_length, List.append_nil, hJ5, List.take_length])

theorem c_laws_markNodeS (a : (Sl PNode)) (k : Int) (w : World) (F : List Nat) (hF : Own.own w a F) (hn : F.Nodup)  (hk0 : 0 ≤ k) (hk : k + ((costL costNode (a.l.map PNode.lg) : Nat) : Int) ≤ 100000000) : Calls Tryz.prog 151 [Sl.v a, I k].toArray w (RetM w a F (I (k + ((costL costNode (a.l.map PNode.lg) : Nat) : Int))) (fun a' => a'.l.map PNode.lg = mkL mkNode costNode k (a.l.map PNode.lg))) := by
 have hw := (Own.ok hF : Sl.Ok w a).lt
 refine enterN 43 Tryz.func151 rfl rfl rfl ?_
 have hs := Sat.markStart hF hn
 refine WC.seq ?_
 refine Qa ?_
 refine WL.next ?_
 refine WC.seq' ?_
 refine WC.seq ?_
 refine Qa ?_
 refine WL.next ?_
 refine WC.block ?_
 refine WC.loopC (ι := Nat × Sl PNode × List Nat × List PNode) (fun ⟨n, s, F1, p⟩ => a.l.length - n) (fun ⟨n, s, F1, p⟩ => [(5, I (n : Int)), (1, I (k + ((costL costNode ((a.l.map PNode.lg).take n) : Nat) : Int))), (0, s.v)]) (fun ⟨n, s, F1, p⟩ => [ow s F1]) (fun ⟨n, s, F1, p⟩ => n ≤ a.l.length ∧ s.v = a.v ∧ p.length = n ∧ s.l = p ++ a.l.drop n ∧ p.map PNode.lg = mkL mkNode costNode k ((a.l.map PNode.lg).take n)) [(4, _)] (0, a, F, []) (hs.sel (D := [ow a F]) Q2) ⟨by rfl, trivial⟩ ⟨by rfl, by exact congrArg (fun z => some (I z)) (by simp [costL]), by rfl, trivial⟩ ?_ ?_
 ·
  exact ⟨Nat.zero_le _, rfl, rfl, by simp, by simp [mkL]⟩
 clear hs; rintro ⟨n, s, F1, p⟩ w ⟨hJ1, hJ2, hJ3, hJ4, hJ5⟩ hs
 simp only [List.cons_append, List.nil_append] at hs
 refine WC.seq' ?_
 refine WC.seq ?_
 refine Qm ?_
 refine Qm ?_
 refine WL.p Q0 (Yl.len_sl slu61 Q0) ?_
 refine WL.p Q0 (Yl.lss Q0 Q0) ?_
 refine WL.next ?_
 refine WC.condS Q0 (fun h1 => ?_) (fun h1 => ?_)
 ·
  replace h1 := of_decide_eq_true h1
  have hsl : s.l.length = a.l.length := by rw [hJ4]; simp [hJ3]; omega
  obtain ⟨d, hd0⟩ := exists_get (l := a.l) (k := n) Q7
  have hd : s.l[n]? = some d := by rw [hJ4]; exact step_get hJ3 hd0
  have hkl : n < s.l.length := by omega
  have hm0 : (a.l.map PNode.lg)[n]? = some d.lg := by rw [List.getElem?_map, hd0]; rfl
  have hsp := costL_split (cost := costNode) hm0
  simp only [costNode, PNode.lg] at hsp
  refine WC.skipn ?_
  refine WC.seq' ?_
  refine WC.block ?_
  refine WC.seq ?_
  refine Qm ?_
  refine Qm ?_
  refine Qm ?_
  refine WL.callp hs Q0 (Yc.func Q0 fn172) (c_laws_markText _ _ Q7) ?_
  clear hs; intro w hs
  refine WL.p Q0 (Yl.indexAddr slt61 Q0 Q0 (hs.okow (x := s) (F := F1) Q1) Q0 (hd)) ?_
  refine WL.p Q0 (Yl.fieldAddr fa165_0 Q0) ?_
  refine WL.s (Yr.storeP (s := s) (F := F1) (d := d) (u := (⟨(mkT (k + ((costL costNode ((a.l.map PNode.lg).take n) : Nat) : Int))), d.text, d.parent, d.attrs⟩ : PNode)) (k := n) (j := 0) hs Q2 Q0 Q0 Q0 hd ⟨_, by rfl, by rfl⟩ Q3 (by exact PNode.part (by first | exact (show WfS ((mkT (k + ((costL costNode ((a.l.map PNode.lg).take n) : Nat) : Int)))) from mkT_len Q7) | assumption | (refine Ph.old ?_ hs; assumption)) (Sl.Ok.elem (hs.okow (x := s) (F := F1) Q1) hd).text (Sl.Ok.elem (hs.okow (x := s) (F := F1) Q1) hd).parent rfl) Q0 (by exact szf9)) ?_
  clear hs; rintro _ w ⟨s1, _, rfl, hv1, hl1, hg1, hs⟩
  refine WL.next ?_
  refine WC.seq ?_
  refine Qm ?_
  refine WL.p Q0 (Yl.add Q0 Q0 Q7) ?_
  refine Qa ?_
  refine WL.next ?_
  refine WC.seq ?_
  refine Qm ?_
  refine Qm ?_
  refine Qm ?_
  refine WL.callp hs Q0 (Yc.func Q0 fn172) (c_laws_markText _ _ Q7) ?_
  clear hs; intro w hs
  refine WL.p Q0 (Yl.indexAddrV slt61 Q0 hv1 Q0 (hs.okow (x := s1) (F := F1) Q1) Q0 (hg1)) ?_
  refine WL.p Q0 (Yl.fieldAddr fa165_1 Q0) ?_
  refine WL.s (Yr.storeP (s := s1) (F := F1) (d := (⟨(mkT (k + ((costL costNode ((a.l.map PNode.lg).take n) : Nat) : Int))), d.text, d.parent, d.attrs⟩ : PNode)) (u := (⟨(mkT (k + ((costL costNode ((a.l.map PNode.lg).take n) : Nat) : Int))), (mkT ((k + ((costL costNode ((a.l.map PNode.lg).take n) : Nat) : Int)) + 1)), d.parent, d.attrs⟩ : PNode)) (k := n) (j := 1) hs Q2 Q0 Q0 Q0 hg1 ⟨_, by rfl, by rfl⟩ Q3 (by exact PNode.part (Sl.Ok.elem (hs.okow (x := s1) (F := F1) Q1) hg1).name (by first | exact (show WfS ((mkT ((k + ((costL costNode ((a.l.map PNode.lg).take n) : Nat) : Int)) + 1))) from mkT_len Q7) | assumption | (refine Ph.old ?_ hs; assumption)) (Sl.Ok.elem (hs.okow (x := s1) (F := F1) Q1) hg1).parent rfl) Q0 (by exact szf9)) ?_
  clear hs; rintro _ w ⟨s2, _, rfl, hv2, hl2, hg2, hs⟩
  refine WL.next ?_
  refine WC.seq ?_
  refine Qm ?_
  refine WL.p Q0 (Yl.add Q0 Q0 Q7) ?_
  refine Qa ?_
  refine WL.next ?_
  refine WC.seq ?_
  refine Qm ?_
  refine Qm ?_
  refine Qm ?_
  refine WL.p Q0 (Yl.indexAddrV slt61 Q0 (hv2.trans hv1) Q0 (hs.okow (x := s2) (F := F1) Q1) Q0 (hg2)) ?_
  refine WL.p Q0 (Yl.fieldAddr fa165_2 Q0) ?_
  refine WL.s (Yr.storeP (s := s2) (F := F1) (d := (⟨(mkT (k + ((costL costNode ((a.l.map PNode.lg).take n) : Nat) : Int))), (mkT ((k + ((costL costNode ((a.l.map PNode.lg).take n) : Nat) : Int)) + 1)), d.parent, d.attrs⟩ : PNode)) (u := (⟨(mkT (k + ((costL costNode ((a.l.map PNode.lg).take n) : Nat) : Int))), (mkT ((k + ((costL costNode ((a.l.map PNode.lg).take n) : Nat) : Int)) + 1)), (((k + ((costL costNode ((a.l.map PNode.lg).take n) : Nat) : Int)) + 1) + 1), d.attrs⟩ : PNode)) (k := n) (j := 2) hs Q2 Q0 Q0 Q0 hg2 ⟨_, by rfl, by rfl⟩ Q3 (by exact PNode.part (Sl.Ok.elem (hs.okow (x := s2) (F := F1) Q1) hg2).name (Sl.Ok.elem (hs.okow (x := s2) (F := F1) Q1) hg2).text (by exact (show WfI ((((k + ((costL costNode ((a.l.map PNode.lg).take n) : Nat) : Int)) + 1) + 1)) from ⟨by omega, by omega⟩)) rfl) Q0 (by exact szf3)) ?_
  clear hs; rintro _ w ⟨s3, _, rfl, hv3, hl3, hg3, hs⟩
  refine WL.next ?_
  refine WC.seq ?_
  refine Qm ?_
  refine WL.p Q0 (Yl.add Q0 Q0 Q7) ?_
  refine Qa ?_
  refine WL.next ?_
  refine WC.region ?_
  refine Qm ?_
  refine Qm ?_
  refine WL.p Q0 (Yl.indexAddrV slt61 Q0 (hv3.trans (hv2.trans hv1)) Q0 (hs.okow (x := s3) (F := F1) Q1) Q0 (hg3)) ?_
  refine WL.p Q0 (Yl.fieldAddr fa165_3 Q0) ?_
  refine WL.p Q0 (Yl.loadC sca163 Q0 (Sl.Ok.at_ (hs.okow (x := s3) (F := F1) Q1) (by assumption)).2 Q0) ?_
  refine Qm ?_
  obtain ⟨G4, B4, hs⟩ := Sat.lend (hs.sel (D := [ow s3 F1]) Q2) hg3
  obtain ⟨K4, hfl4, hs⟩ := PNode.split hs
  refine WL.callm (a := d.attrs) (F := K4) hs Q2 Q0 (Yc.func Q0 fn225) (c_laws_markAttrS d.attrs _ _ K4 (own_of hs Q1) (nodup_of hs Q1) Q13 Q13) ?_
  clear hs; intro a4 A4 w he4 hq4 hs
  replace hs := PNode.join (⟨(mkT (k + ((costL costNode ((a.l.map PNode.lg).take n) : Nat) : Int))), (mkT ((k + ((costL costNode ((a.l.map PNode.lg).take n) : Nat) : Int)) + 1)), (((k + ((costL costNode ((a.l.map PNode.lg).take n) : Nat) : Int)) + 1) + 1), a4⟩ : PNode) (hs.sel (D := [ow a4 A4]) Q2) (Flat.any hfl4.1) (Flat.any hfl4.2.1) (Flat.any hfl4.2.2.1)
  obtain ⟨s4, F4, hv4, hl4, hg4, hs⟩ := Sat.back (s := s3) (k := n) (d := (⟨(mkT (k + ((costL costNode ((a.l.map PNode.lg).take n) : Nat) : Int))), (mkT ((k + ((costL costNode ((a.l.map PNode.lg).take n) : Nat) : Int)) + 1)), (((k + ((costL costNode ((a.l.map PNode.lg).take n) : Nat) : Int)) + 1) + 1), d.attrs⟩ : PNode)) (hs.sel (D := [ow (⟨(mkT (k + ((costL costNode ((a.l.map PNode.lg).take n) : Nat) : Int))), (mkT ((k + ((costL costNode ((a.l.map PNode.lg).take n) : Nat) : Int)) + 1)), (((k + ((costL costNode ((a.l.map PNode.lg).take n) : Nat) : Int)) + 1) + 1), a4⟩ : PNode) A4, hl s3 n G4]) Q2) hg3 (by show [S (⟨(mkT (k + ((costL costNode ((a.l.map PNode.lg).take n) : Nat) : Int))), (mkT ((k + ((costL costNode ((a.l.map PNode.lg).take n) : Nat) : Int)) + 1)), (((k + ((costL costNode ((a.l.map PNode.lg).take n) : Nat) : Int)) + 1) + 1), a4⟩ : PNode).name, S (⟨(mkT (k + ((costL costNode ((a.l.map PNode.lg).take n) : Nat) : Int))), (mkT ((k + ((costL costNode ((a.l.map PNode.lg).take n) : Nat) : Int)) + 1)), (((k + ((costL costNode ((a.l.map PNode.lg).take n) : Nat) : Int)) + 1) + 1), a4⟩ : PNode).text, I (⟨(mkT (k + ((costL costNode ((a.l.map PNode.lg).take n) : Nat) : Int))), (mkT ((k + ((costL costNode ((a.l.map PNode.lg).take n) : Nat) : Int)) + 1)), (((k + ((costL costNode ((a.l.map PNode.lg).take n) : Nat) : Int)) + 1) + 1), a4⟩ : PNode).parent, Sl.v a4] = [S (⟨(mkT (k + ((costL costNode ((a.l.map PNode.lg).take n) : Nat) : Int))), (mkT ((k + ((costL costNode ((a.l.map PNode.lg).take n) : Nat) : Int)) + 1)), (((k + ((costL costNode ((a.l.map PNode.lg).take n) : Nat) : Int)) + 1) + 1), d.attrs⟩ : PNode).name, S (⟨(mkT (k + ((costL costNode ((a.l.map PNode.lg).take n) : Nat) : Int))), (mkT ((k + ((costL costNode ((a.l.map PNode.lg).take n) : Nat) : Int)) + 1)), (((k + ((costL costNode ((a.l.map PNode.lg).take n) : Nat) : Int)) + 1) + 1), d.attrs⟩ : PNode).text, I (⟨(mkT (k + ((costL costNode ((a.l.map PNode.lg).take n) : Nat) : Int))), (mkT ((k + ((costL costNode ((a.l.map PNode.lg).take n) : Nat) : Int)) + 1)), (((k + ((costL costNode ((a.l.map PNode.lg).take n) : Nat) : Int)) + 1) + 1), d.attrs⟩ : PNode).parent, Sl.v d.attrs]; rw [show Sl.v a4 = Sl.v d.attrs from Sl.enc_v he4])
  try simp only [List.cons_append, List.nil_append] at hs
  refine Qa ?_
  refine WL.nil ?_
  refine At.blocknormal ?_
  refine At.then_ ?_
  refine WC.region ?_
  refine Qm ?_
  refine WL.p Q0 (Yl.add Q0 Q0 Q7) ?_
  refine Qa ?_
  refine WL.nil ?_
  refine At.roundC (n + 1, s4, F4, p ++ [(⟨(mkT (k + ((costL costNode ((a.l.map PNode.lg).take n) : Nat) : Int))), (mkT ((k + ((costL costNode ((a.l.map PNode.lg).take n) : Nat) : Int)) + 1)), (((k + ((costL costNode ((a.l.map PNode.lg).take n) : Nat) : Int)) + 1) + 1), a4⟩ : PNode)]) (hs.only Q2) ⟨by rfl, trivial⟩ ⟨by rfl, by exact congrArg (fun z => some (I z)) (by rw [costL_step hm0]; simp only [costNode, PNode.lg]; omega), by exact congrArg some (hv4.trans (hv3.trans (hv2.trans hv1))).symm, trivial⟩ ?_ ?_
  ·
   show a.l.length - (n + 1) < a.l.length - n
   omega
  ·
   refine ⟨by omega, (hv4.trans (hv3.trans (hv2.trans hv1))).trans hJ2, by simp [hJ3], ?_, ?_⟩
   · rw [hl4, hl3, hl2, hl1]; (try simp only [List.set_set]); rw [hJ4]; exact step_set hJ3 Q7
   · rw [mkL_step hm0, List.map_append, hJ5]; congr 1; simp only [List.map_cons, List.map_nil, List.cons.injEq, and_true]; simp only [mkNode, PNode.lg, hq4]
 ·
  replace h1 := of_decide_eq_false h1
  refine WC.exit ?_
  refine At.thenexit ?_
  refine At.thenexit ?_
  refine At.blockexit ?_
  refine At.then_ ?_
  refine WC.seq ?_
  refine Qm ?_
  refine Qa ?_
  refine WL.next ?_
  refine WC.ret ?_
  refine fin1' rfl Q0 ?_
  have hsl : s.l.length = a.l.length := by rw [hJ4]; simp [hJ3]; omega
  have hn2 : n = a.l.length := by omega
  subst hn2
  refine RetM.cast (congrArg I (by rw [List.take_of_length_le (by simp)])) ?_
  exact RetM.of hs Q1 (Sl.v_enc hJ2) (by rw [hJ4, List.drop_length, List.append_nil, hJ5, List.take_of_length_le (by simp)])

theorem c_laws_markIntS (a : (Sl Int)) (k : Int) (w : World) (F : List Nat) (hF : Own.own w a F) (hn : F.Nodup)  (hk0 : 0 ≤ k) (hk : k + ((costL (fun _ => 1) (a.l) : Nat) : Int) ≤ 100000000) : Calls Tryz.prog 152 [Sl.v a, I k].toArray w (RetM w a F (I (k + ((costL (fun _ => 1) (a.l) : Nat) : Int))) (fun a' => a'.l = mkL mkInt (fun _ => 1) k (a.l))) := by
 have hw := (Own.ok hF : Sl.Ok w a).lt
 have hk2 := hk
 rw [costL_const] at hk2
 refine enterN 19 Tryz.func152 rfl rfl rfl ?_
 have hs := Sat.markStart hF hn
 refine WC.seq ?_
 refine Qa ?_
 refine WL.next ?_
 refine WC.seq' ?_
 refine WC.seq ?_
 refine Qa ?_
 refine WL.next ?_
 refine WC.block ?_
 refine WC.loopC (ι := Nat × Sl Int × List Nat × List Int) (fun ⟨n, s, F1, p⟩ => a.l.length - n) (fun ⟨n, s, F1, p⟩ => [(5, I (n : Int)), (1, I (k + ((n : Nat) : Int))), (0, s.v)]) (fun ⟨n, s, F1, p⟩ => [ow s F1]) (fun ⟨n, s, F1, p⟩ => n ≤ a.l.length ∧ s.v = a.v ∧ p.length = n ∧ s.l = p ++ a.l.drop n ∧ p = mkL mkInt (fun _ => 1) k (a.l.take n)) [(4, _)] (0, a, F, []) (hs.sel (D := [ow a F]) Q2) ⟨by rfl, trivial⟩ ⟨by rfl, by exact congrArg (fun z => some (I z)) Q7, by rfl, trivial⟩ ?_ ?_
 ·
  exact ⟨Nat.zero_le _, rfl, rfl, by simp, by simp [mkL]⟩
 clear hs; rintro ⟨n, s, F1, p⟩ w ⟨hJ1, hJ2, hJ3, hJ4, hJ5⟩ hs
 simp only [List.cons_append, List.nil_append] at hs
 refine WC.seq' ?_
 refine WC.seq ?_
 refine Qm ?_
 refine Qm ?_
 refine WL.p Q0 (Yl.len_sl slu62 Q0) ?_
 refine WL.p Q0 (Yl.lss Q0 Q0) ?_
 refine WL.next ?_
 refine WC.condS Q0 (fun h1 => ?_) (fun h1 => ?_)
 ·
  replace h1 := of_decide_eq_true h1
  have hsl : s.l.length = a.l.length := by rw [hJ4]; simp [hJ3]; omega
  obtain ⟨d, hd0⟩ := exists_get (l := a.l) (k := n) Q7
  have hd : s.l[n]? = some d := by rw [hJ4]; exact step_get hJ3 hd0
  have hkl : n < s.l.length := by omega
  refine WC.skipn ?_
  refine WC.seq' ?_
  refine WC.block ?_
  refine WC.seq ?_
  refine Qm ?_
  refine Qm ?_
  refine Qm ?_
  refine WL.p Q0 (Yl.indexAddr slt62 Q0 Q0 (hs.okow (x := s) (F := F1) Q1) Q0 (hd)) ?_
  refine WL.s (Yr.storeE (u := mkInt (k + (n : Int)) d) (k := n) (hs.flat (x := (mkInt (k + (n : Int)) d : Int)) (by exact ⟨by show _ ≤ k + (n : Int); omega, by show k + (n : Int) ≤ _; omega⟩)) Q2 Q0 Q0 Q0 (by exact hkl) ⟨_, by rfl, by rfl⟩ szf3) ?_
  clear hs; rintro _ w ⟨F1, hs⟩
  refine WL.next ?_
  refine WC.region ?_
  refine Qm ?_
  refine WL.p Q0 (Yl.add Q0 Q0 Q7) ?_
  refine Qa ?_
  refine WL.nil ?_
  refine At.blocknormal ?_
  refine At.then_ ?_
  refine WC.region ?_
  refine Qm ?_
  refine WL.p Q0 (Yl.add Q0 Q0 Q7) ?_
  refine Qa ?_
  refine WL.nil ?_
  refine At.roundC (n + 1, ⟨s.l.set n (mkInt (k + ((n : Nat) : Int)) d), s.a, s.c⟩, _, p ++ [mkInt (k + ((n : Nat) : Int)) d]) (hs.only Q2) ⟨by rfl, trivial⟩ ⟨by rfl, by exact congrArg (fun z => some (I z)) Q7, by rw [Sl.v_set]; rfl, trivial⟩ ?_ ?_
  ·
   show a.l.length - (n + 1) < a.l.length - n
   omega
  ·
   exact ⟨by omega, by rw [Sl.v_set]; exact hJ2, by simp [hJ3], by simp only [hJ4]; exact step_set hJ3 Q7, by rw [mkL_step hd0, hJ5, costL_const, List.length_take, Nat.min_eq_left Q7, Nat.one_mul]⟩
 ·
  replace h1 := of_decide_eq_false h1
  refine WC.exit ?_
  refine At.thenexit ?_
  refine At.thenexit ?_
  refine At.blockexit ?_
  refine At.then_ ?_
  refine WC.seq ?_
  refine Qm ?_
  refine Qa ?_
  refine WL.next ?_
  refine WC.ret ?_
  refine fin1' rfl Q0 ?_
  have hsl : s.l.length = a.l.length := by rw [hJ4]; simp [hJ3]; omega
  have hn2 : n = a.l.length := by omega
  subst hn2
  rw [costL_const]
  refine RetM.cast (congrArg I Q7) ?_
  exact RetM.of hs Q1 (Sl.v_enc hJ2) (by rw [hJ4, List.drop_length, List.append_nil, hJ5, List.take_length])

theorem c_laws_markBuilder (a : PBuilder) (k : Int) (w : World) (F : List Nat) (hF : Own.own w a F) (hn : F.Nodup)  (hk0 : 0 ≤ k) (hk : k + ((costoBuilder a.lg : Nat) : Int) ≤ 100000000) : Calls Tryz.prog 57 [.agg #[Sl.v a.nodes, Sl.v a.opn], I k].toArray w (RetM w a F (I (k + ((costoBuilder a.lg : Nat) : Int))) (fun a' => a'.lg = mkoBuilder k a.lg)) := by
 have hk2 := hk
 simp only [costoBuilder, costoBuilder, PToken.lg, PNode.lg, PBuilder.lg, PSheet.lg, PPolicy.lg, PServer.lg, PCache.lg, PNet.lg, PPage.lg] at hk2
 refine enterN 14 Tryz.func57 rfl rfl rfl ?_
 have hs := Sat.markStart hF hn
 obtain ⟨G0, G1, hfl, hs⟩ := PBuilder.split hs
 refine WC.seq ?_
 refine WL.r Q0 (Yr.box hs Q0 Q0) ?_
 clear hs; rintro _ w ⟨b1, rfl, hb, hs⟩; clear hb
 refine Qa ?_
 refine WL.next ?_
 refine WC.seq ?_
 refine WL.p Q0 (Yl.fieldAddr fa64_0 Q0) ?_
 refine WL.p Q0 (Yl.loadB sca61 Q0 hs Q1 Q0) ?_
 refine Qm ?_
 refine WL.callm (a := a.nodes) (F := G0) hs Q2 Q0 (Yc.func Q0 fn151) (c_laws_markNodeS a.nodes _ _ G0 (own_of hs Q1) (nodup_of hs Q1) Q11 Q11) ?_
 clear hs; intro a2 F2 w he2 hq2 hs
 refine Qa ?_
 refine WL.next ?_
 refine WC.seq ?_
 refine WL.p Q0 (Yl.fieldAddr fa64_1 Q0) ?_
 refine WL.p Q0 (Yl.loadB sca62 Q0 hs Q1 Q0) ?_
 refine Qm ?_
 refine WL.callm (a := a.opn) (F := G1) hs Q2 Q0 (Yc.func Q0 fn152) (c_laws_markIntS a.opn _ _ G1 (own_of hs Q1) (nodup_of hs Q1) Q11 Q11) ?_
 clear hs; intro a3 F3 w he3 hq3 hs
 refine Qa ?_
 refine WL.next ?_
 refine WC.seq ?_
 refine Qm ?_
 refine Qa ?_
 refine WL.next ?_
 refine WC.ret ?_
 refine fin1' rfl Q0 ?_
 refine RetM.cast (congrArg I (by first | rfl | (simp only [costoBuilder, costoBuilder, PToken.lg, PNode.lg, PBuilder.lg, PSheet.lg, PPolicy.lg, PServer.lg, PCache.lg, PNet.lg, PPage.lg]; omega))) ?_
 exact RetM.of (a' := ⟨a2, a3⟩) (PBuilder.join ⟨a2, a3⟩ (hs.only (D := [ow a2 F2, ow a3 F3]) Q2) ) List.mem_cons_self (by show [Sl.v a2, Sl.v a3] = [Sl.v a.nodes, Sl.v a.opn]; rw [show Sl.v a2 = Sl.v a.nodes from Sl.enc_v he2, show Sl.v a3 = Sl.v a.opn from Sl.enc_v he3]) (by simp only [PBuilder.lg, mkoBuilder]; rw [show (a2.l.map PNode.lg) = _ from hq2, show a3.l = _ from hq3])

theorem c_laws_markRuleS (a : (Sl TRule)) (k : Int) (w : World) (F : List Nat) (hF : Own.own w a F) (hn : F.Nodup)  (hk0 : 0 ≤ k) (hk : k + ((costL (fun _ => 2) (a.l) : Nat) : Int) ≤ 100000000) : Calls Tryz.prog 153 [Sl.v a, I k].toArray w (RetM w a F (I (k + ((costL (fun _ => 2) (a.l) : Nat) : Int))) (fun a' => a'.l = mkL mkRule (fun _ => 2) k (a.l))) := by
 have hw := (Own.ok hF : Sl.Ok w a).lt
 have hk2 := hk
 rw [costL_const] at hk2
 refine enterN 28 Tryz.func153 rfl rfl rfl ?_
 have hs := Sat.markStart hF hn
 refine WC.seq ?_
 refine Qa ?_
 refine WL.next ?_
 refine WC.seq' ?_
 refine WC.seq ?_
 refine Qa ?_
 refine WL.next ?_
 refine WC.block ?_
 refine WC.loopC (ι := Nat × Sl TRule × List Nat × List TRule) (fun ⟨n, s, F1, p⟩ => a.l.length - n) (fun ⟨n, s, F1, p⟩ => [(5, I (n : Int)), (1, I (k + ((2 * n : Nat) : Int))), (0, s.v)]) (fun ⟨n, s, F1, p⟩ => [ow s F1]) (fun ⟨n, s, F1, p⟩ => n ≤ a.l.length ∧ s.v = a.v ∧ p.length = n ∧ s.l = p ++ a.l.drop n ∧ p = mkL mkRule (fun _ => 2) k (a.l.take n)) [(4, _)] (0, a, F, []) (hs.sel (D := [ow a F]) Q2) ⟨by rfl, trivial⟩ ⟨by rfl, by exact congrArg (fun z => some (I z)) Q7, by rfl, trivial⟩ ?_ ?_
 ·
  exact ⟨Nat.zero_le _, rfl, rfl, by simp, by simp [mkL]⟩
 clear hs; rintro ⟨n, s, F1, p⟩ w ⟨hJ1, hJ2, hJ3, hJ4, hJ5⟩ hs
 simp only [List.cons_append, List.nil_append] at hs
 refine WC.seq' ?_
 refine WC.seq ?_
 refine Qm ?_
 refine Qm ?_
 refine WL.p Q0 (Yl.len_sl slu49 Q0) ?_
 refine WL.p Q0 (Yl.lss Q0 Q0) ?_
 refine WL.next ?_
 refine WC.condS Q0 (fun h1 => ?_) (fun h1 => ?_)
 ·
  replace h1 := of_decide_eq_true h1
  have hsl : s.l.length = a.l.length := by rw [hJ4]; simp [hJ3]; omega
  obtain ⟨d, hd0⟩ := exists_get (l := a.l) (k := n) Q7
  have hd : s.l[n]? = some d := by rw [hJ4]; exact step_get hJ3 hd0
  have hkl : n < s.l.length := by omega
  refine WC.skipn ?_
  refine WC.seq' ?_
  refine WC.block ?_
  refine WC.seq ?_
  refine Qm ?_
  refine Qm ?_
  refine Qm ?_
  refine WL.callp hs Q0 (Yc.func Q0 fn172) (c_laws_markText _ _ Q7) ?_
  clear hs; intro w hs
  refine WL.p Q0 (Yl.indexAddr slt49 Q0 Q0 (hs.okow (x := s) (F := F1) Q1) Q0 (hd)) ?_
  refine WL.p Q0 (Yl.fieldAddr fa60_0 Q0) ?_
  refine WL.s (Yr.storeP (s := s) (F := F1) (d := d) (u := (⟨(mkT (k + ((2 * n : Nat) : Int))), d.color⟩ : TRule)) (k := n) (j := 0) hs Q2 Q0 Q0 Q0 hd ⟨_, by rfl, by rfl⟩ Q3 (by exact own_part_flat ⟨(by first | exact (show WfS ((mkT (k + ((2 * n : Nat) : Int)))) from mkT_len Q7) | assumption | (refine Ph.old ?_ hs; assumption)), (Sl.Ok.elem (hs.okow (x := s) (F := F1) Q1) hd).color⟩) Q0 (by exact szf9)) ?_
  clear hs; rintro _ w ⟨s1, _, rfl, hv1, hl1, hg1, hs⟩
  refine WL.next ?_
  refine WC.seq ?_
  refine Qm ?_
  refine WL.p Q0 (Yl.add Q0 Q0 Q7) ?_
  refine Qa ?_
  refine WL.next ?_
  refine WC.seq ?_
  refine Qm ?_
  refine Qm ?_
  refine Qm ?_
  refine WL.p Q0 (Yl.indexAddrV slt49 Q0 hv1 Q0 (hs.okow (x := s1) (F := F1) Q1) Q0 (hg1)) ?_
  refine WL.p Q0 (Yl.fieldAddr fa60_1 Q0) ?_
  refine WL.s (Yr.storeP (s := s1) (F := F1) (d := (⟨(mkT (k + ((2 * n : Nat) : Int))), d.color⟩ : TRule)) (u := (⟨(mkT (k + ((2 * n : Nat) : Int))), ((k + ((2 * n : Nat) : Int)) + 1)⟩ : TRule)) (k := n) (j := 1) hs Q2 Q0 Q0 Q0 hg1 ⟨_, by rfl, by rfl⟩ Q3 (by exact own_part_flat ⟨(Sl.Ok.elem (hs.okow (x := s1) (F := F1) Q1) hg1).name, (by exact (show WfI (((k + ((2 * n : Nat) : Int)) + 1)) from ⟨by omega, by omega⟩))⟩) Q0 (by exact szf3)) ?_
  clear hs; rintro _ w ⟨s2, _, rfl, hv2, hl2, hg2, hs⟩
  refine WL.next ?_
  refine WC.region ?_
  refine Qm ?_
  refine WL.p Q0 (Yl.add Q0 Q0 Q7) ?_
  refine Qa ?_
  refine WL.nil ?_
  refine At.blocknormal ?_
  refine At.then_ ?_
  refine WC.region ?_
  refine Qm ?_
  refine WL.p Q0 (Yl.add Q0 Q0 Q7) ?_
  refine Qa ?_
  refine WL.nil ?_
  refine At.roundC (n + 1, s2, F1, p ++ [(⟨(mkT (k + ((2 * n : Nat) : Int))), ((k + ((2 * n : Nat) : Int)) + 1)⟩ : TRule)]) (hs.only Q2) ⟨by rfl, trivial⟩ ⟨by rfl, by exact congrArg (fun z => some (I z)) Q7, by exact congrArg some (hv2.trans hv1).symm, trivial⟩ ?_ ?_
  ·
   show a.l.length - (n + 1) < a.l.length - n
   omega
  ·
   refine ⟨by omega, (hv2.trans hv1).trans hJ2, by simp [hJ3], ?_, ?_⟩
   · rw [hl2, hl1]; (try simp only [List.set_set]); rw [hJ4]; exact step_set hJ3 Q7
   · rw [mkL_step hd0, hJ5, costL_take_const Q7]; rfl
 ·
  replace h1 := of_decide_eq_false h1
  refine WC.exit ?_
  refine At.thenexit ?_
  refine At.thenexit ?_
  refine At.blockexit ?_
  refine At.then_ ?_
  refine WC.seq ?_
  refine Qm ?_
  refine Qa ?_
  refine WL.next ?_
  refine WC.ret ?_
  refine fin1' rfl Q0 ?_
  have hsl : s.l.length = a.l.length := by rw [hJ4]; simp [hJ3]; omega
  have hn2 : n = a.l.length := by omega
  subst hn2
  rw [costL_const]
  refine RetM.cast (congrArg I Q7) ?_
  exact RetM.of hs Q1 (Sl.v_enc hJ2) (by rw [hJ4, List.drop_length, List.append_nil, hJ5, List.take_length])

theorem c_laws_markSheetS (a : (Sl PSheet)) (k : Int) (w : World) (F : List Nat) (hF : Own.own w a F) (hn : F.Nodup)  (hk0 : 0 ≤ k) (hk : k + ((costL costSheet (a.l.map PSheet.lg) : Nat) : Int) ≤ 100000000) : Calls Tryz.prog 58 [Sl.v a, I k].toArray w (RetM w a F (I (k + ((costL costSheet (a.l.map PSheet.lg) : Nat) : Int))) (fun a' => a'.l.map PSheet.lg = mkL mkSheet costSheet k (a.l.map PSheet.lg))) := by
 have hw := (Own.ok hF : Sl.Ok w a).lt
 refine enterN 20 Tryz.func58 rfl rfl rfl ?_
 have hs := Sat.markStart hF hn
 refine WC.seq ?_
 refine Qa ?_
 refine WL.next ?_
 refine WC.seq' ?_
 refine WC.seq ?_
 refine Qa ?_
 refine WL.next ?_
 refine WC.block ?_
 refine WC.loopC (ι := Nat × Sl PSheet × List Nat × List PSheet) (fun ⟨n, s, F1, p⟩ => a.l.length - n) (fun ⟨n, s, F1, p⟩ => [(5, I (n : Int)), (1, I (k + ((costL costSheet ((a.l.map PSheet.lg).take n) : Nat) : Int))), (0, s.v)]) (fun ⟨n, s, F1, p⟩ => [ow s F1]) (fun ⟨n, s, F1, p⟩ => n ≤ a.l.length ∧ s.v = a.v ∧ p.length = n ∧ s.l = p ++ a.l.drop n ∧ p.map PSheet.lg = mkL mkSheet costSheet k ((a.l.map PSheet.lg).take n)) [(4, _)] (0, a, F, []) (hs.sel (D := [ow a F]) Q2) ⟨by rfl, trivial⟩ ⟨by rfl, by exact congrArg (fun z => some (I z)) (by simp [costL]), by rfl, trivial⟩ ?_ ?_
 ·
  exact ⟨Nat.zero_le _, rfl, rfl, by simp, by simp [mkL]⟩
 clear hs; rintro ⟨n, s, F1, p⟩ w ⟨hJ1, hJ2, hJ3, hJ4, hJ5⟩ hs
 simp only [List.cons_append, List.nil_append] at hs
 refine WC.seq' ?_
 refine WC.seq ?_
 refine Qm ?_
 refine Qm ?_
 refine WL.p Q0 (Yl.len_sl slu54 Q0) ?_
 refine WL.p Q0 (Yl.lss Q0 Q0) ?_
 refine WL.next ?_
 refine WC.condS Q0 (fun h1 => ?_) (fun h1 => ?_)
 ·
  replace h1 := of_decide_eq_true h1
  have hsl : s.l.length = a.l.length := by rw [hJ4]; simp [hJ3]; omega
  obtain ⟨d, hd0⟩ := exists_get (l := a.l) (k := n) Q7
  have hd : s.l[n]? = some d := by rw [hJ4]; exact step_get hJ3 hd0
  have hkl : n < s.l.length := by omega
  have hm0 : (a.l.map PSheet.lg)[n]? = some d.lg := by rw [List.getElem?_map, hd0]; rfl
  have hsp := costL_split (cost := costSheet) hm0
  simp only [costSheet, PSheet.lg] at hsp
  refine WC.skipn ?_
  refine WC.seq' ?_
  refine WC.block ?_
  refine WC.region ?_
  refine Qm ?_
  refine Qm ?_
  refine WL.p Q0 (Yl.indexAddr slt54 Q0 Q0 (hs.okow (x := s) (F := F1) Q1) Q0 (hd)) ?_
  refine WL.p Q0 (Yl.fieldAddr fa51_0 Q0) ?_
  refine WL.p Q0 (Yl.loadC sca49 Q0 (Sl.Ok.at_ (hs.okow (x := s) (F := F1) Q1) (by assumption)).2 Q0) ?_
  refine Qm ?_
  obtain ⟨G1, B1, hs⟩ := Sat.lend (hs.sel (D := [ow s F1]) Q2) hd
  obtain ⟨K1, hfl1, hs⟩ := PSheet.split hs
  refine WL.callm (a := d.rules) (F := K1) hs Q2 Q0 (Yc.func Q0 fn153) (c_laws_markRuleS d.rules _ _ K1 (own_of hs Q1) (nodup_of hs Q1) Q13 Q13) ?_
  clear hs; intro a1 A1 w he1 hq1 hs
  replace hs := PSheet.join (⟨a1⟩ : PSheet) (hs.sel (D := [ow a1 A1]) Q2)
  obtain ⟨s1, F1, hv1, hl1, hg1, hs⟩ := Sat.back (s := s) (k := n) (d := d) (hs.sel (D := [ow (⟨a1⟩ : PSheet) A1, hl s n G1]) Q2) hd (by show [Sl.v a1] = [Sl.v d.rules]; rw [show Sl.v a1 = Sl.v d.rules from Sl.enc_v he1])
  try simp only [List.cons_append, List.nil_append] at hs
  refine Qa ?_
  refine WL.nil ?_
  refine At.blocknormal ?_
  refine At.then_ ?_
  refine WC.region ?_
  refine Qm ?_
  refine WL.p Q0 (Yl.add Q0 Q0 Q7) ?_
  refine Qa ?_
  refine WL.nil ?_
  refine At.roundC (n + 1, s1, F1, p ++ [(⟨a1⟩ : PSheet)]) (hs.only Q2) ⟨by rfl, trivial⟩ ⟨by rfl, by exact congrArg (fun z => some (I z)) (by rw [costL_step hm0]; simp only [costSheet, PSheet.lg]; omega), by exact congrArg some hv1.symm, trivial⟩ ?_ ?_
  ·
   show a.l.length - (n + 1) < a.l.length - n
   omega
  ·
   refine ⟨by omega, hv1.trans hJ2, by simp [hJ3], ?_, ?_⟩
   · rw [hl1]; (try simp only [List.set_set]); rw [hJ4]; exact step_set hJ3 Q7
   · rw [mkL_step hm0, List.map_append, hJ5]; congr 1; simp only [List.map_cons, List.map_nil, List.cons.injEq, and_true]; simp only [mkSheet, PSheet.lg, hq1]
 ·
  replace h1 := of_decide_eq_false h1
  refine WC.exit ?_
  refine At.thenexit ?_
  refine At.thenexit ?_
  refine At.blockexit ?_
  refine At.then_ ?_
  refine WC.seq ?_
  refine Qm ?_
  refine Qa ?_
  refine WL.next ?_
  refine WC.ret ?_
  refine fin1' rfl Q0 ?_
  have hsl : s.l.length = a.l.length := by rw [hJ4]; simp [hJ3]; omega
  have hn2 : n = a.l.length := by omega
  subst hn2
  refine RetM.cast (congrArg I (by rw [List.take_of_length_le (by simp)])) ?_
  exact RetM.of hs Q1 (Sl.v_enc hJ2) (by rw [hJ4, List.drop_length, List.append_nil, hJ5, List.take_of_length_le (by simp)])

theorem c_laws_heldAttrS (a : (Sl TAttr)) (k : Int) (v : List TAttr) (w : World) (h_a : Ph.ok w a) (hk0 : 0 ≤ k) (hk : k + ((costL (fun _ => 2) (v) : Nat) : Int) ≤ 100000000) (hm : a.l = mkL mkAttr (fun _ => 2) k v) : Calls Tryz.prog 226 [Sl.v a, I k].toArray w (RetP w (I (k + ((costL (fun _ => 2) (v) : Nat) : Int)))) := by
 have hw := h_a.lt
 have hc : a.l.length = v.length := by rw [hm, mkL_length]
 have hk2 := hk
 rw [costL_const] at hk2
 refine enterN 33 Tryz.func226 rfl rfl rfl ?_
 have hs := Sat.start w
 refine WC.seq ?_
 refine Qa ?_
 refine WL.next ?_
 refine WC.seq' ?_
 refine WC.seq ?_
 refine Qa ?_
 refine WL.next ?_
 refine WC.block ?_
 refine WC.loopC (ι := Nat) (fun n => a.l.length - n) (fun n => [(5, I (n : Int)), (1, I (k + ((2 * n : Nat) : Int)))]) (fun _ => []) (fun n => n ≤ a.l.length) [(0, _)] 0 (hs) ⟨by rfl, trivial⟩ ⟨by rfl, by exact congrArg (fun z => some (I z)) Q7, trivial⟩ ?_ ?_
 ·
  exact Nat.zero_le _
 clear hs; rintro n w hJ1 hs
 simp only [List.nil_append] at hs
 refine WC.seq' ?_
 refine WC.seq ?_
 refine Qm ?_
 refine Qm ?_
 refine WL.p Q0 (Yl.len_sl slu163 Q0) ?_
 refine WL.p Q0 (Yl.lss Q0 Q0) ?_
 refine WL.next ?_
 refine WC.condS Q0 (fun h1 => ?_) (fun h1 => ?_)
 ·
  replace h1 := of_decide_eq_true h1
  obtain ⟨y, hy⟩ := exists_get (l := v) (k := n) Q7
  have hd : a.l[n]? = some (mkAttr (k + ((2 * n : Nat) : Int)) y) := by rw [hm, mkL_get hy, costL_take_const Q7]
  refine WC.skipn ?_
  refine WC.seq' ?_
  refine WC.block ?_
  refine WC.seq' ?_
  refine WC.quietn mixed Q6 hs ?_
  refine WQ.p Q0 (fun w hs => Yl.move Q0) ?_
  refine WQ.p Q0 (fun w hs => Yl.move Q0) ?_
  refine WQ.p Q0 (fun w hs => Yl.indexAddr slt163 Q0 Q0 (Ph.old h_a hs) Q0 (hd)) ?_
  refine WQ.p Q0 (fun w hs => Yl.fieldAddr fa255_0 Q0) ?_
  refine WQ.p Q0 (fun w hs => Yl.loadC sca9 Q0 (Sl.Ok.at_ (Ph.old h_a hs) (by assumption)).2 Q0) ?_
  refine WQ.p Q0 (fun w hs => Yl.move Q0) ?_
  refine WQ.callp Q0 (fun w => Yc.func Q0 fn172) (fun w hs => (c_laws_markText _ _ Q7)) (fun _ _ hs hb => hs.ext hb) ?_
  refine WQ.p Q0 (fun w hs => Yl.nes Q0 Q0) ?_
  refine WQ.next ?_
  clear hs; intro w hs
  refine WC.condS Q0 (fun h2 => ?_) (fun h2 => ?_)
  ·
   replace h2 := not_eq_true h2
   replace h2 := of_decide_eq_false h2
   refine WC.seq ?_
   refine Qa ?_
   refine WL.next ?_
   refine WC.ret ?_
   refine At.thenret ?_
   refine At.blockret ?_
   refine At.thenret ?_
   refine At.thenret ?_
   refine At.blockret ?_
   refine At.thenret ?_
   refine fin1' rfl Q0 ?_
   refine RetP.mk hs ?_
   first
    | exact absurd rfl h2
    | (exfalso; omega)
    | (rw [costL_const]; exact congrArg I Q7)
  ·
   replace h2 := not_eq_false h2
   replace h2 := of_decide_eq_true h2
   refine WC.skipn ?_
   refine WC.seq ?_
   refine Qm ?_
   refine WL.p Q0 (Yl.add Q0 Q0 Q7) ?_
   refine Qa ?_
   refine WL.next ?_
   refine WC.seq' ?_
   refine WC.quietn mixed Q6 hs ?_
   refine WQ.p Q0 (fun w hs => Yl.move Q0) ?_
   refine WQ.p Q0 (fun w hs => Yl.move Q0) ?_
   refine WQ.p Q0 (fun w hs => Yl.indexAddr slt163 Q0 Q0 (Ph.old h_a hs) Q0 (hd)) ?_
   refine WQ.p Q0 (fun w hs => Yl.fieldAddr fa255_1 Q0) ?_
   refine WQ.p Q0 (fun w hs => Yl.loadC sca9 Q0 (Sl.Ok.at_ (Ph.old h_a hs) (by assumption)).2 Q0) ?_
   refine WQ.p Q0 (fun w hs => Yl.move Q0) ?_
   refine WQ.callp Q0 (fun w => Yc.func Q0 fn172) (fun w hs => (c_laws_markText _ _ Q7)) (fun _ _ hs hb => hs.ext hb) ?_
   refine WQ.p Q0 (fun w hs => Yl.nes Q0 Q0) ?_
   refine WQ.next ?_
   clear hs; intro w hs
   refine WC.condS Q0 (fun h3 => ?_) (fun h3 => ?_)
   ·
    replace h3 := not_eq_true h3
    replace h3 := of_decide_eq_false h3
    refine WC.seq ?_
    refine Qa ?_
    refine WL.next ?_
    refine WC.ret ?_
    refine At.thenret ?_
    refine At.blockret ?_
    refine At.thenret ?_
    refine At.thenret ?_
    refine At.blockret ?_
    refine At.thenret ?_
    refine fin1' rfl Q0 ?_
    refine RetP.mk hs ?_
    first
     | exact absurd rfl h3
     | (exfalso; omega)
     | (rw [costL_const]; exact congrArg I Q7)
   ·
    replace h3 := not_eq_false h3
    replace h3 := of_decide_eq_true h3
    refine WC.skipn ?_
    refine WC.region ?_
    refine Qm ?_
    refine WL.p Q0 (Yl.add Q0 Q0 Q7) ?_
    refine Qa ?_
    refine WL.nil ?_
    refine At.blocknormal ?_
    refine At.then_ ?_
    refine WC.region ?_
    refine Qm ?_
    refine WL.p Q0 (Yl.add Q0 Q0 Q7) ?_
    refine Qa ?_
    refine WL.nil ?_
    refine At.roundC (n + 1) (hs.only Q2) ⟨by rfl, trivial⟩ ⟨by rfl, by exact congrArg (fun z => some (I z)) Q7, trivial⟩ ?_ ?_
    ·
     omega
    ·
     omega
 ·
  replace h1 := of_decide_eq_false h1
  refine WC.exit ?_
  refine At.thenexit ?_
  refine At.thenexit ?_
  refine At.blockexit ?_
  refine At.then_ ?_
  refine WC.seq ?_
  refine Qm ?_
  refine Qa ?_
  refine WL.next ?_
  refine WC.ret ?_
  refine fin1' rfl Q0 ?_
  refine RetP.mk hs ?_
  first
   | exact absurd rfl h1
   | (exfalso; omega)
   | (rw [costL_const]; exact congrArg I Q7)

theorem c_laws_heldNodeS (a : (Sl PNode)) (k : Int) (v : List TNode) (w : World) (h_a : Ph.ok w a) (hk0 : 0 ≤ k) (hk : k + ((costL costNode (v) : Nat) : Int) ≤ 100000000) (hm : a.l.map PNode.lg = mkL mkNode costNode k v) : Calls Tryz.prog 154 [Sl.v a, I k].toArray w (RetP w (I (k + ((costL costNode (v) : Nat) : Int)))) := by
 have hw := h_a.lt
 have hc : a.l.length = v.length := by have := congrArg List.length hm; simpa [mkL_length] using this
 refine enterN 51 Tryz.func154 rfl rfl rfl ?_
 have hs := Sat.start w
 refine WC.seq ?_
 refine Qa ?_
 refine WL.next ?_
 refine WC.seq' ?_
 refine WC.seq ?_
 refine Qa ?_
 refine WL.next ?_
 refine WC.block ?_
 refine WC.loopC (ι := Nat) (fun n => a.l.length - n) (fun n => [(5, I (n : Int)), (1, I (k + ((costL costNode (v.take n) : Nat) : Int)))]) (fun _ => []) (fun n => n ≤ a.l.length) [(0, _)] 0 (hs) ⟨by rfl, trivial⟩ ⟨by rfl, by exact congrArg (fun z => some (I z)) (by simp [costL]), trivial⟩ ?_ ?_
 ·
  exact Nat.zero_le _
 clear hs; rintro n w hJ1 hs
 simp only [List.nil_append] at hs
 refine WC.seq' ?_
 refine WC.seq ?_
 refine Qm ?_
 refine Qm ?_
 refine WL.p Q0 (Yl.len_sl slu61 Q0) ?_
 refine WL.p Q0 (Yl.lss Q0 Q0) ?_
 refine WL.next ?_
 refine WC.condS Q0 (fun h1 => ?_) (fun h1 => ?_)
 ·
  replace h1 := of_decide_eq_true h1
  obtain ⟨d, hd⟩ := exists_get (l := a.l) (k := n) Q7
  obtain ⟨y, hy⟩ := exists_get (l := v) (k := n) Q7
  have hm0 : (a.l.map PNode.lg)[n]? = some d.lg := by rw [List.getElem?_map, hd]; rfl
  have hdy : d.lg = mkNode (k + ((costL costNode (v.take n) : Nat) : Int)) y := by rw [hm, mkL_get hy] at hm0; exact (Option.some.inj hm0).symm
  have hsp := costL_split (cost := costNode) hy
  simp only [costNode] at hsp
  refine WC.skipn ?_
  refine WC.seq' ?_
  refine WC.block ?_
  refine WC.seq' ?_
  refine WC.quietn mixed Q6 hs ?_
  refine WQ.p Q0 (fun w hs => Yl.move Q0) ?_
  refine WQ.p Q0 (fun w hs => Yl.move Q0) ?_
  refine WQ.p Q0 (fun w hs => Yl.indexAddr slt61 Q0 Q0 (Ph.old h_a hs) Q0 (hd)) ?_
  refine WQ.p Q0 (fun w hs => Yl.fieldAddr fa165_0 Q0) ?_
  refine WQ.p Q0 (fun w hs => Yl.loadC sca9 Q0 (Sl.Ok.at_ (Ph.old h_a hs) (by assumption)).2 Q0) ?_
  refine WQ.p Q0 (fun w hs => Yl.move Q0) ?_
  refine WQ.callp Q0 (fun w => Yc.func Q0 fn172) (fun w hs => (c_laws_markText _ _ Q7)) (fun _ _ hs hb => hs.ext hb) ?_
  refine WQ.p Q0 (fun w hs => Yl.nes Q0 Q0) ?_
  refine WQ.next ?_
  clear hs; intro w hs
  refine WC.condS Q0 (fun h2 => ?_) (fun h2 => ?_)
  ·
   replace h2 := not_eq_true h2
   replace h2 := of_decide_eq_false h2
   refine WC.seq ?_
   refine Qa ?_
   refine WL.next ?_
   refine WC.ret ?_
   refine At.thenret ?_
   refine At.blockret ?_
   refine At.thenret ?_
   refine At.thenret ?_
   refine At.blockret ?_
   refine At.thenret ?_
   refine fin1' rfl Q0 ?_
   refine RetP.mk hs ?_
   first
    | exact absurd rfl h2
    | exact absurd (congrArg TNode.name hdy) h2
    | exact absurd (congrArg TNode.text hdy) h2
    | exact absurd (congrArg TNode.parent hdy) h2
    | (exfalso; omega)
    | exact congrArg I (by rw [List.take_of_length_le Q7])
  ·
   replace h2 := not_eq_false h2
   replace h2 := of_decide_eq_true h2
   refine WC.skipn ?_
   refine WC.seq ?_
   refine Qm ?_
   refine WL.p Q0 (Yl.add Q0 Q0 Q7) ?_
   refine Qa ?_
   refine WL.next ?_
   refine WC.seq' ?_
   refine WC.quietn mixed Q6 hs ?_
   refine WQ.p Q0 (fun w hs => Yl.move Q0) ?_
   refine WQ.p Q0 (fun w hs => Yl.move Q0) ?_
   refine WQ.p Q0 (fun w hs => Yl.indexAddr slt61 Q0 Q0 (Ph.old h_a hs) Q0 (hd)) ?_
   refine WQ.p Q0 (fun w hs => Yl.fieldAddr fa165_1 Q0) ?_
   refine WQ.p Q0 (fun w hs => Yl.loadC sca9 Q0 (Sl.Ok.at_ (Ph.old h_a hs) (by assumption)).2 Q0) ?_
   refine WQ.p Q0 (fun w hs => Yl.move Q0) ?_
   refine WQ.callp Q0 (fun w => Yc.func Q0 fn172) (fun w hs => (c_laws_markText _ _ Q7)) (fun _ _ hs hb => hs.ext hb) ?_
   refine WQ.p Q0 (fun w hs => Yl.nes Q0 Q0) ?_
   refine WQ.next ?_
   clear hs; intro w hs
   refine WC.condS Q0 (fun h3 => ?_) (fun h3 => ?_)
   ·
    replace h3 := not_eq_true h3
    replace h3 := of_decide_eq_false h3
    refine WC.seq ?_
    refine Qa ?_
    refine WL.next ?_
    refine WC.ret ?_
    refine At.thenret ?_
    refine At.blockret ?_
    refine At.thenret ?_
    refine At.thenret ?_
    refine At.blockret ?_
    refine At.thenret ?_
    refine fin1' rfl Q0 ?_
    refine RetP.mk hs ?_
    first
     | exact absurd rfl h3
     | exact absurd (congrArg TNode.name hdy) h3
     | exact absurd (congrArg TNode.text hdy) h3
     | exact absurd (congrArg TNode.parent hdy) h3
     | (exfalso; omega)
     | exact congrArg I (by rw [List.take_of_length_le Q7])
   ·
    replace h3 := not_eq_false h3
    replace h3 := of_decide_eq_true h3
    refine WC.skipn ?_
    refine WC.seq ?_
    refine Qm ?_
    refine WL.p Q0 (Yl.add Q0 Q0 Q7) ?_
    refine Qa ?_
    refine WL.next ?_
    refine WC.seq' ?_
    refine WC.seq ?_
    refine Qm ?_
    refine Qm ?_
    refine WL.p Q0 (Yl.indexAddr slt61 Q0 Q0 (Ph.old h_a hs) Q0 (hd)) ?_
    refine WL.p Q0 (Yl.fieldAddr fa165_2 Q0) ?_
    refine WL.p Q0 (Yl.loadC sca3 Q0 (Sl.Ok.at_ (Ph.old h_a hs) (by assumption)).2 Q0) ?_
    refine Qm ?_
    refine WL.p Q0 (Yl.nei Q0 Q0) ?_
    refine WL.next ?_
    refine WC.condS Q0 (fun h4 => ?_) (fun h4 => ?_)
    ·
     replace h4 := not_eq_true h4
     replace h4 := of_decide_eq_false h4
     refine WC.seq ?_
     refine Qa ?_
     refine WL.next ?_
     refine WC.ret ?_
     refine At.thenret ?_
     refine At.blockret ?_
     refine At.thenret ?_
     refine At.thenret ?_
     refine At.blockret ?_
     refine At.thenret ?_
     refine fin1' rfl Q0 ?_
     refine RetP.mk hs ?_
     first
      | exact absurd rfl h4
      | exact absurd (congrArg TNode.name hdy) h4
      | exact absurd (congrArg TNode.text hdy) h4
      | exact absurd (congrArg TNode.parent hdy) h4
      | (exfalso; omega)
      | exact congrArg I (by rw [List.take_of_length_le Q7])
    ·
     replace h4 := not_eq_false h4
     replace h4 := of_decide_eq_true h4
     refine WC.skipn ?_
     refine WC.seq ?_
     refine Qm ?_
     refine WL.p Q0 (Yl.add Q0 Q0 Q7) ?_
     refine Qa ?_
     refine WL.next ?_
     refine WC.seq ?_
     refine Qm ?_
     refine Qm ?_
     refine WL.p Q0 (Yl.indexAddr slt61 Q0 Q0 (Ph.old h_a hs) Q0 (hd)) ?_
     refine WL.p Q0 (Yl.fieldAddr fa165_3 Q0) ?_
     refine WL.p Q0 (Yl.loadC sca163 Q0 (Sl.Ok.at_ (Ph.old h_a hs) (by assumption)).2 Q0) ?_
     refine Qm ?_
     refine WL.callp hs Q0 (Yc.func Q0 fn226) (c_laws_heldAttrS _ _ y.attrs _ (Ph.old (Sl.Ok.elem h_a hd).attrs hs) Q10 Q10 (by exact congrArg TNode.attrs hdy)) ?_
     clear hs; intro w hs
     refine Qa ?_
     refine WL.next ?_
     refine WC.seq ?_
     refine Qm ?_
     refine WL.p Q0 (Yl.lss Q0 Q0) ?_
     refine WL.next ?_
     refine WC.condS Q0 (fun h5 => ?_) (fun h5 => ?_)
     ·
      replace h5 := of_decide_eq_true h5
      refine WC.seq ?_
      refine Qa ?_
      refine WL.next ?_
      refine WC.ret ?_
      refine At.blockret ?_
      refine At.thenret ?_
      refine At.thenret ?_
      refine At.blockret ?_
      refine At.thenret ?_
      refine fin1' rfl Q0 ?_
      refine RetP.mk hs ?_
      first
       | exact absurd rfl h5
       | exact absurd (congrArg TNode.name hdy) h5
       | exact absurd (congrArg TNode.text hdy) h5
       | exact absurd (congrArg TNode.parent hdy) h5
       | (exfalso; omega)
       | exact congrArg I (by rw [List.take_of_length_le Q7])
     ·
      replace h5 := of_decide_eq_false h5
      refine WC.skip ?_
      refine At.blocknormal ?_
      refine At.then_ ?_
      refine WC.region ?_
      refine Qm ?_
      refine WL.p Q0 (Yl.add Q0 Q0 Q7) ?_
      refine Qa ?_
      refine WL.nil ?_
      refine At.roundC (n + 1) (hs.only Q2) ⟨by rfl, trivial⟩ ⟨by rfl, by exact congrArg (fun z => some (I z)) (by rw [costL_step hy]; simp only [costNode]; omega), trivial⟩ ?_ ?_
      ·
       omega
      ·
       omega
 ·
  replace h1 := of_decide_eq_false h1
  refine WC.exit ?_
  refine At.thenexit ?_
  refine At.thenexit ?_
  refine At.blockexit ?_
  refine At.then_ ?_
  refine WC.seq ?_
  refine Qm ?_
  refine Qa ?_
  refine WL.next ?_
  refine WC.ret ?_
  refine fin1' rfl Q0 ?_
  refine RetP.mk hs ?_
  first
   | exact absurd rfl h1
   | exact absurd (congrArg TNode.name hdy) h1
   | exact absurd (congrArg TNode.text hdy) h1
   | exact absurd (congrArg TNode.parent hdy) h1
   | (exfalso; omega)
   | exact congrArg I (by rw [List.take_of_length_le Q7])

theorem c_laws_heldIntS (a : (Sl Int)) (k : Int) (v : List Int) (w : World) (h_a : Ph.ok w a) (hk0 : 0 ≤ k) (hk : k + ((costL (fun _ => 1) (v) : Nat) : Int) ≤ 100000000) (hm : a.l = mkL mkInt (fun _ => 1) k v) : Calls Tryz.prog 155 [Sl.v a, I k].toArray w (RetP w (I (k + ((costL (fun _ => 1) (v) : Nat) : Int)))) := by
 have hw := h_a.lt
 have hc : a.l.length = v.length := by rw [hm, mkL_length]
 have hk2 := hk
 rw [costL_const] at hk2
 refine enterN 21 Tryz.func155 rfl rfl rfl ?_
 have hs := Sat.start w
 refine WC.seq ?_
 refine Qa ?_
 refine WL.next ?_
 refine WC.seq' ?_
 refine WC.seq ?_
 refine Qa ?_
 refine WL.next ?_
 refine WC.block ?_
 refine WC.loopC (ι := Nat) (fun n => a.l.length - n) (fun n => [(5, I (n : Int)), (1, I (k + ((n : Nat) : Int)))]) (fun _ => []) (fun n => n ≤ a.l.length) [(0, _)] 0 (hs) ⟨by rfl, trivial⟩ ⟨by rfl, by exact congrArg (fun z => some (I z)) Q7, trivial⟩ ?_ ?_
 ·
  exact Nat.zero_le _
 clear hs; rintro n w hJ1 hs
 simp only [List.nil_append] at hs
 refine WC.seq' ?_
 refine WC.seq ?_
 refine Qm ?_
 refine Qm ?_
 refine WL.p Q0 (Yl.len_sl slu62 Q0) ?_
 refine WL.p Q0 (Yl.lss Q0 Q0) ?_
 refine WL.next ?_
 refine WC.condS Q0 (fun h1 => ?_) (fun h1 => ?_)
 ·
  replace h1 := of_decide_eq_true h1
  obtain ⟨y, hy⟩ := exists_get (l := v) (k := n) Q7
  have hd : a.l[n]? = some (mkInt (k + ((n : Nat) : Int)) y) := by rw [hm, mkL_get hy, costL_take_const Q7, Nat.one_mul]
  refine WC.skipn ?_
  refine WC.seq' ?_
  refine WC.block ?_
  refine WC.seq' ?_
  refine WC.seq ?_
  refine Qm ?_
  refine Qm ?_
  refine WL.p Q0 (Yl.indexAddr slt62 Q0 Q0 (Ph.old h_a hs) Q0 (hd)) ?_
  refine WL.p Q0 (Yl.loadC0 sca3 Q0 (Sl.Ok.at_ (Ph.old h_a hs) (by assumption)).2 Q0) ?_
  refine Qm ?_
  refine WL.p Q0 (Yl.nei Q0 Q0) ?_
  refine WL.next ?_
  refine WC.condS Q0 (fun h2 => ?_) (fun h2 => ?_)
  ·
   replace h2 := not_eq_true h2
   replace h2 := of_decide_eq_false h2
   refine WC.seq ?_
   refine Qa ?_
   refine WL.next ?_
   refine WC.ret ?_
   refine At.thenret ?_
   refine At.blockret ?_
   refine At.thenret ?_
   refine At.thenret ?_
   refine At.blockret ?_
   refine At.thenret ?_
   refine fin1' rfl Q0 ?_
   refine RetP.mk hs ?_
   first
    | exact absurd rfl h2
    | (exfalso; omega)
    | (rw [costL_const]; exact congrArg I Q7)
  ·
   replace h2 := not_eq_false h2
   replace h2 := of_decide_eq_true h2
   refine WC.skipn ?_
   refine WC.region ?_
   refine Qm ?_
   refine WL.p Q0 (Yl.add Q0 Q0 Q7) ?_
   refine Qa ?_
   refine WL.nil ?_
   refine At.blocknormal ?_
   refine At.then_ ?_
   refine WC.region ?_
   refine Qm ?_
   refine WL.p Q0 (Yl.add Q0 Q0 Q7) ?_
   refine Qa ?_
   refine WL.nil ?_
   refine At.roundC (n + 1) (hs.only Q2) ⟨by rfl, trivial⟩ ⟨by rfl, by exact congrArg (fun z => some (I z)) Q7, trivial⟩ ?_ ?_
   ·
    omega
   ·
    omega
 ·
  replace h1 := of_decide_eq_false h1
  refine WC.exit ?_
  refine At.thenexit ?_
  refine At.thenexit ?_
  refine At.blockexit ?_
  refine At.then_ ?_
  refine WC.seq ?_
  refine Qm ?_
  refine Qa ?_
  refine WL.next ?_
  refine WC.ret ?_
  refine fin1' rfl Q0 ?_
  refine RetP.mk hs ?_
  first
   | exact absurd rfl h1
   | (exfalso; omega)
   | (rw [costL_const]; exact congrArg I Q7)

theorem c_laws_heldBuilder (a : PBuilder) (k : Int) (v : TBuilder) (w : World) (h_a : Ph.ok w a) (hk0 : 0 ≤ k) (hk : k + ((costoBuilder v : Nat) : Int) ≤ 100000000) (hm : a.lg = mkoBuilder k v) : Calls Tryz.prog 59 [.agg #[Sl.v a.nodes, Sl.v a.opn], I k].toArray w (RetP w (I (k + ((costoBuilder v : Nat) : Int)))) := by
 have hk2 := hk
 simp only [costoBuilder, costoBuilder] at hk2
 refine enterN 18 Tryz.func59 rfl rfl rfl ?_
 have hs := Sat.start w
 refine WC.seq ?_
 refine WL.r Q0 (Yr.box hs Q0 Q0) ?_
 clear hs; rintro _ w ⟨b1, rfl, hb, hs⟩; clear hb
 refine Qa ?_
 refine WL.next ?_
 refine WC.seq ?_
 refine WL.p Q0 (Yl.fieldAddr fa64_0 Q0) ?_
 refine WL.p Q0 (Yl.loadB sca61 Q0 hs Q1 Q0) ?_
 refine Qm ?_
 refine WL.callp hs Q0 (Yc.func Q0 fn154) (c_laws_heldNodeS _ _ v.nodes _ (Ph.old h_a.nodes hs) Q12 Q12 (by exact congrArg TBuilder.nodes hm)) ?_
 clear hs; intro w hs
 refine Qa ?_
 refine WL.next ?_
 refine WC.seq' ?_
 refine WC.seq ?_
 refine Qm ?_
 refine WL.p Q0 (Yl.lss Q0 Q0) ?_
 refine WL.next ?_
 refine WC.condS Q0 (fun h1 => ?_) (fun h1 => ?_)
 ·
  replace h1 := of_decide_eq_true h1
  refine WC.seq ?_
  refine Qa ?_
  refine WL.next ?_
  refine WC.ret ?_
  refine At.thenret ?_
  refine fin1' rfl Q0 ?_
  refine RetP.mk hs ?_
  first
   | (exfalso; omega)
   | rfl
   | exact congrArg I (by simp only [costoBuilder, costoBuilder]; omega)
 ·
  replace h1 := of_decide_eq_false h1
  refine WC.skipn ?_
  refine WC.seq ?_
  refine WL.p Q0 (Yl.fieldAddr fa64_1 Q0) ?_
  refine WL.p Q0 (Yl.loadB sca62 Q0 hs Q1 Q0) ?_
  refine Qm ?_
  refine WL.callp hs Q0 (Yc.func Q0 fn155) (c_laws_heldIntS _ _ v.opn _ (Ph.old h_a.opn hs) Q12 Q12 (by exact congrArg TBuilder.opn hm)) ?_
  clear hs; intro w hs
  refine Qa ?_
  refine WL.next ?_
  refine WC.seq' ?_
  refine WC.seq ?_
  refine Qm ?_
  refine WL.p Q0 (Yl.lss Q0 Q0) ?_
  refine WL.next ?_
  refine WC.condS Q0 (fun h2 => ?_) (fun h2 => ?_)
  ·
   replace h2 := of_decide_eq_true h2
   refine WC.seq ?_
   refine Qa ?_
   refine WL.next ?_
   refine WC.ret ?_
   refine At.thenret ?_
   refine fin1' rfl Q0 ?_
   refine RetP.mk hs ?_
   first
    | (exfalso; omega)
    | rfl
    | exact congrArg I (by simp only [costoBuilder, costoBuilder]; omega)
  ·
   replace h2 := of_decide_eq_false h2
   refine WC.skipn ?_
   refine WC.seq ?_
   refine Qm ?_
   refine Qa ?_
   refine WL.next ?_
   refine WC.ret ?_
   refine fin1' rfl Q0 ?_
   refine RetP.mk hs ?_
   first
    | (exfalso; omega)
    | rfl
    | exact congrArg I (by simp only [costoBuilder, costoBuilder]; omega)

theorem c_laws_szLine (a : TLine) (left : Int) (w : World) (h_a : Ph.ok w a) (hl0 : 0 ≤ left) (hl1 : left ≤ 1048576) : Calls Tryz.prog 51 [.agg #[I a.op, S a.text], I left].toArray w (RetP w (I (lessN left a.size))) := by
 have hb1 : a.text.length ≤ 9223372036854775807 := h_a.text
 refine enterN 13 Tryz.func51 rfl rfl rfl ?_
 have hs := Sat.start w
 refine WC.seq ?_
 refine WL.r Q0 (Yr.box hs Q0 Q0) ?_
 clear hs; rintro _ w ⟨b1, rfl, hb, hs⟩; clear hb
 refine Qa ?_
 refine WL.next ?_
 refine WC.seq ?_
 refine Qm ?_
 refine WL.p Q0 (Yl.fieldAddr fa97_1 Q0) ?_
 refine WL.p Q0 (Yl.loadB sca9 Q0 hs Q1 Q0) ?_
 refine WL.p Q0 (Yl.len_str str9 Q0) ?_
 refine WL.p Q0 (Yl.sub_ Q0 Q0 Q7) ?_
 refine Qa ?_
 refine WL.next ?_
 refine WC.seq' ?_
 refine WC.seq ?_
 refine Qm ?_
 refine WL.p Q0 (Yl.lss Q0 Q0) ?_
 refine WL.next ?_
 refine WC.condS Q0 (fun h1 => ?_) (fun h1 => ?_)
 ·
  replace h1 := of_decide_eq_true h1
  refine WC.seq ?_
  refine Qa ?_
  refine WL.next ?_
  refine WC.ret ?_
  refine At.thenret ?_
  refine fin1' rfl Q0 ?_
  refine RetP.mk hs ?_
  first
   | (rw [lessN_lt (left := left) (n := a.size) (by simp only [TLine.size]; omega)]; done)
   | (rw [lessN_ge (left := left) (n := a.size) (by simp only [TLine.size]; omega)]; try exact congrArg I (by simp only [TLine.size] <;> omega))
 ·
  replace h1 := of_decide_eq_false h1
  refine WC.skipn ?_
  refine WC.seq ?_
  refine Qm ?_
  refine Qa ?_
  refine WL.next ?_
  refine WC.ret ?_
  refine fin1' rfl Q0 ?_
  refine RetP.mk hs ?_
  first
   | (rw [lessN_lt (left := left) (n := a.size) (by simp only [TLine.size]; omega)]; done)
   | (rw [lessN_ge (left := left) (n := a.size) (by simp only [TLine.size]; omega)]; try exact congrArg I (by simp only [TLine.size] <;> omega))

theorem c_laws_szLineS (a : (Sl TLine)) (left : Int) (w : World) (h_a : Ph.ok w a) (hl0 : 0 ≤ left) (hl1 : left ≤ 1048576) : Calls Tryz.prog 75 [Sl.v a, I left].toArray w (RetP w (I (lessN left (lsz TLine.size a.l)))) := by
 have hw := h_a.lt
 refine enterN 27 Tryz.func75 rfl rfl rfl ?_
 have hs := Sat.start w
 refine WC.seq ?_
 refine Qa ?_
 refine WL.next ?_
 refine WC.seq ?_
 refine Qm ?_
 refine Qm ?_
 refine WL.p Q0 (Yl.len_sl slu126 Q0) ?_
 refine WL.p Q0 (Yl.sub_ Q0 Q0 Q7) ?_
 refine Qa ?_
 refine WL.next ?_
 refine WC.seq' ?_
 refine WC.seq ?_
 refine Qm ?_
 refine WL.p Q0 (Yl.lss Q0 Q0) ?_
 refine WL.next ?_
 refine WC.condS Q0 (fun h1 => ?_) (fun h1 => ?_)
 ·
  replace h1 := of_decide_eq_true h1
  refine WC.seq ?_
  refine Qa ?_
  refine WL.next ?_
  refine WC.ret ?_
  refine At.thenret ?_
  refine fin1' rfl Q0 ?_
  refine RetP.mk hs ?_
  rw [lessN_lt (by simp only [lsz]; omega)]
 ·
  replace h1 := of_decide_eq_false h1
  refine WC.skipn ?_
  refine WC.seq' ?_
  refine WC.seq ?_
  refine Qa ?_
  refine WL.next ?_
  refine WC.block ?_
  refine WC.loopC (ι := Nat × Int) (fun ⟨k, l⟩ => a.l.length - k) (fun ⟨k, l⟩ => [(5, I (k : Int)), (1, I l)]) (fun _ => []) (fun ⟨k, l⟩ => 0 ≤ l ∧ l ≤ 1048576 ∧ lessN l (lsum TLine.size (a.l.drop k)) = lessN left (lsz TLine.size a.l)) [(0, _), (11, _)] (0, left - (a.l.length : Int)) (hs) ⟨by rfl, by rfl, trivial⟩ ⟨by rfl, by rfl, trivial⟩ ?_ ?_
  ·
   refine ⟨by omega, by omega, ?_⟩
   rw [List.drop_zero, lsz, lessN_sub Q7]
  clear hs; rintro ⟨k, l⟩ w ⟨hJ1, hJ2, hJ3⟩ hs
  simp only [List.nil_append] at hs
  refine WC.seq' ?_
  refine WC.seq ?_
  refine Qm ?_
  refine Qm ?_
  refine WL.p Q0 (Yl.len_sl slu126 Q0) ?_
  refine WL.p Q0 (Yl.lss Q0 Q0) ?_
  refine WL.next ?_
  refine WC.condS Q0 (fun h2 => ?_) (fun h2 => ?_)
  ·
   replace h2 := of_decide_eq_true h2
   obtain ⟨d, hd⟩ := exists_get (l := a.l) (k := k) Q7
   rw [drop_cons hd, lsum_cons] at hJ3
   refine WC.skipn ?_
   refine WC.seq' ?_
   refine WC.block ?_
   refine WC.seq ?_
   refine Qm ?_
   refine Qm ?_
   refine WL.p Q0 (Yl.indexAddr slt126 Q0 Q0 (Ph.old h_a hs) Q0 (hd)) ?_
   refine WL.p Q0 (Yl.loadA agg97 Q0 (Sl.Ok.at_ (Ph.old h_a hs) (by assumption)).2 Q0) ?_
   refine Qm ?_
   refine WL.callp hs Q0 (Yc.func Q0 fn51) (c_laws_szLine _ _ _ (Ph.old (Sl.Ok.elem h_a hd) hs) Q10 Q10) ?_
   clear hs; intro w hs
   refine Qa ?_
   refine WL.next ?_
   refine WC.seq ?_
   refine Qm ?_
   refine WL.p Q0 (Yl.lss Q0 Q0) ?_
   refine WL.next ?_
   refine WC.condS Q0 (fun h3 => ?_) (fun h3 => ?_)
   ·
    replace h3 := lessN_neg (of_decide_eq_true h3)
    refine WC.seq ?_
    refine Qa ?_
    refine WL.next ?_
    refine WC.ret ?_
    refine At.blockret ?_
    refine At.thenret ?_
    refine At.thenret ?_
    refine At.blockret ?_
    refine At.thenret ?_
    refine fin1' rfl Q0 ?_
    refine RetP.mk hs ?_
    rw [← hJ3, lessN_add_lt h3]
   ·
    replace h3 := lessN_nn Q7 (of_decide_eq_false h3)
    refine WC.skip ?_
    refine At.blocknormal ?_
    refine At.then_ ?_
    refine WC.region ?_
    refine Qm ?_
    refine WL.p Q0 (Yl.add Q0 Q0 Q7) ?_
    refine Qa ?_
    refine WL.nil ?_
    refine At.roundC (k + 1, lessN l (TLine.size d)) (hs.only Q2) ⟨by rfl, by rfl, trivial⟩ ⟨by rfl, by rfl, trivial⟩ ?_ ?_
    ·
     show a.l.length - (k + 1) < a.l.length - k
     omega
    ·
     simp only [h3.2]
     refine ⟨by omega, by omega, ?_⟩
     rw [lessN_sub Q7, hJ3]
  ·
   replace h2 := of_decide_eq_false h2
   rw [drop_out (l := a.l) Q7, lsum_nil] at hJ3
   refine WC.exit ?_
   refine At.thenexit ?_
   refine At.thenexit ?_
   refine At.blockexit ?_
   refine At.then_ ?_
   refine WC.seq ?_
   refine Qm ?_
   refine Qa ?_
   refine WL.next ?_
   refine WC.ret ?_
   refine fin1' rfl Q0 ?_
   refine RetP.mk hs ?_
   rw [← hJ3, lessN_zero hJ1]

theorem c_spec_FormatInt (n : Int) (w : World) (h_n : Ph.ok w n)  : Calls Tryz.prog 68 [I n].toArray w (RetP w (S (Lib.itoa n))) := by
 refine enterN 31 Tryz.func68 rfl rfl rfl ?_
 have hs := Sat.start w
 refine WC.seq ?_
 refine Qa ?_
 refine WL.next ?_
 refine WC.seq' ?_
 refine WC.seq ?_
 refine Qm ?_
 refine WL.p Q0 (Yl.eqi Q0 Q0) ?_
 refine WL.next ?_
 refine WC.condS Q0 (fun h1 => ?_) (fun h1 => ?_)
 ·
  replace h1 := of_decide_eq_true h1
  refine WC.seq ?_
  refine Qa ?_
  refine WL.next ?_
  refine WC.ret ?_
  refine At.thenret ?_
  refine fin1' rfl Q0 ?_
  refine RetP.mk hs ?_
  rw [h1, itoa_zero]
 ·
  replace h1 := of_decide_eq_false h1
  refine WC.skipn ?_
  refine WC.seq ?_
  refine Qa ?_
  refine WL.next ?_
  refine WC.seq' ?_
  refine WC.seq ?_
  refine Qm ?_
  refine Qa ?_
  refine WL.next ?_
  refine WC.block ?_
  refine WC.loopC (ι := Int × Str) (fun ⟨x, q⟩ => x.natAbs) (fun ⟨x, q⟩ => [(4, I x), (3, S q)]) (fun _ => []) (fun ⟨x, q⟩ => -9223372036854775808 ≤ x ∧ x ≤ 9223372036854775807 ∧ dig0 n.natAbs = dig0 x.natAbs ++ q) [(0, _), (2, _), (7, _)] (n, []) (hs) ⟨by rfl, by rfl, by rfl, trivial⟩ ⟨by rfl, by rfl, trivial⟩ ?_ ?_
  ·
   exact ⟨h_n.lo, h_n.hi, by simp⟩
  clear hs; rintro ⟨x, q⟩ w ⟨hJ1, hJ2, hJ3⟩ hs
  simp only [List.nil_append] at hs
  refine WC.seq' ?_
  refine WC.seq ?_
  refine Qm ?_
  refine WL.p Q0 (Yl.nei Q0 Q0) ?_
  refine WL.next ?_
  refine WC.condS Q0 (fun h2 => ?_) (fun h2 => ?_)
  ·
   replace h2 := not_eq_true h2
   replace h2 := of_decide_eq_false h2
   refine WC.skipn ?_
   refine WC.seq' ?_
   refine WC.block ?_
   refine WC.seq ?_
   refine Qm ?_
   refine WL.p Q0 (Yl.remw Q0 Q0 (by decide)) ?_
   refine Qa ?_
   refine WL.next ?_
   refine WC.seq' ?_
   refine WC.seq ?_
   refine Qm ?_
   refine WL.p Q0 (Yl.lss Q0 Q0) ?_
   refine WL.next ?_
   refine WC.condS Q0 (fun h3 => ?_) (fun h3 => ?_)
   ·
    replace h3 := of_decide_eq_true h3
    refine WC.region ?_
    refine Qm ?_
    refine WL.p Q0 (Yl.neg Q0) ?_
    refine Qa ?_
    refine WL.nil ?_
    refine At.then_ ?_
    refine WC.region ?_
    refine Qm ?_
    refine WL.p Q0 (Yl.add Q0 Q0 (by first | (have e9 := tmod10_abs x; first | omega | (rw [wrap_in Q7]; omega)) | (have e8 := congrArg List.length hJ3; have e7 := dig0_len n.natAbs; have e5 := h_n.lo; have e6 := h_n.hi; simp only [List.length_append, List.length_cons, List.length_nil] at *; omega))) ?_
    refine WL.p Q0 (Yl.intByte (c := UInt8.ofNat (48 + x.natAbs % 10)) Q6 u8t5 Q0 (by rw [digit_nat]; have e9 := tmod10_abs x; first | omega | (rw [wrap_in Q7]; omega))) ?_
    refine WL.r Q0 (Yr.buildSlice hs sll22 Q0 Q0 Q0 Q4 Q0) ?_
    clear hs; rintro _ w ⟨b1, rfl, hb, hs⟩; clear hb
    refine WL.p Q0 (Yl.bytesStr (l := [UInt8.ofNat (48 + x.natAbs % 10)]) slu22 u8t5 str9 Q0 (hs.box_cells Q1) Q0 Q0) ?_
    refine Qm ?_
    refine WL.p Q0 (Yl.cat Q0 Q0 (by first | (have e9 := tmod10_abs x; first | omega | (rw [wrap_in Q7]; omega)) | (have e8 := congrArg List.length hJ3; have e7 := dig0_len n.natAbs; have e5 := h_n.lo; have e6 := h_n.hi; simp only [List.length_append, List.length_cons, List.length_nil] at *; omega))) ?_
    refine Qa ?_
    refine WL.nil ?_
    refine At.blocknormal ?_
    refine At.then_ ?_
    refine WC.region ?_
    refine Qm ?_
    refine WL.p Q0 (Yl.quow Q0 Q0 (by decide)) ?_
    refine Qa ?_
    refine WL.nil ?_
    refine At.roundC (x.tdiv 10, UInt8.ofNat (48 + x.natAbs % 10) :: q) (hs.only Q2) ⟨by rfl, by rfl, by rfl, trivial⟩ ⟨by exact congrArg (fun z => some (I z)) (quo_abs hJ1 hJ2), by rfl, trivial⟩ ?_ ?_
    ·
     show (x.tdiv 10).natAbs < x.natAbs
     rw [natAbs_tdiv10]; omega
    ·
     have e9 := natAbs_tdiv10 x
     exact ⟨by show _ ≤ x.tdiv 10; omega, by show x.tdiv 10 ≤ _; omega, by rw [natAbs_tdiv10, hJ3, dig0_step (show x.natAbs ≠ 0 by omega)]; simp⟩
   ·
    replace h3 := of_decide_eq_false h3
    refine WC.skipn ?_
    refine WC.region ?_
    refine Qm ?_
    refine WL.p Q0 (Yl.add Q0 Q0 (by first | (have e9 := tmod10_abs x; first | omega | (rw [wrap_in Q7]; omega)) | (have e8 := congrArg List.length hJ3; have e7 := dig0_len n.natAbs; have e5 := h_n.lo; have e6 := h_n.hi; simp only [List.length_append, List.length_cons, List.length_nil] at *; omega))) ?_
    refine WL.p Q0 (Yl.intByte (c := UInt8.ofNat (48 + x.natAbs % 10)) Q6 u8t5 Q0 (by rw [digit_nat]; have e9 := tmod10_abs x; first | omega | (rw [wrap_in Q7]; omega))) ?_
    refine WL.r Q0 (Yr.buildSlice hs sll22 Q0 Q0 Q0 Q4 Q0) ?_
    clear hs; rintro _ w ⟨b2, rfl, hb, hs⟩; clear hb
    refine WL.p Q0 (Yl.bytesStr (l := [UInt8.ofNat (48 + x.natAbs % 10)]) slu22 u8t5 str9 Q0 (hs.box_cells Q1) Q0 Q0) ?_
    refine Qm ?_
    refine WL.p Q0 (Yl.cat Q0 Q0 (by first | (have e9 := tmod10_abs x; first | omega | (rw [wrap_in Q7]; omega)) | (have e8 := congrArg List.length hJ3; have e7 := dig0_len n.natAbs; have e5 := h_n.lo; have e6 := h_n.hi; simp only [List.length_append, List.length_cons, List.length_nil] at *; omega))) ?_
    refine Qa ?_
    refine WL.nil ?_
    refine At.blocknormal ?_
    refine At.then_ ?_
    refine WC.region ?_
    refine Qm ?_
    refine WL.p Q0 (Yl.quow Q0 Q0 (by decide)) ?_
    refine Qa ?_
    refine WL.nil ?_
    refine At.roundC (x.tdiv 10, UInt8.ofNat (48 + x.natAbs % 10) :: q) (hs.only Q2) ⟨by rfl, by rfl, by rfl, trivial⟩ ⟨by exact congrArg (fun z => some (I z)) (quo_abs hJ1 hJ2), by rfl, trivial⟩ ?_ ?_
    ·
     show (x.tdiv 10).natAbs < x.natAbs
     rw [natAbs_tdiv10]; omega
    ·
     have e9 := natAbs_tdiv10 x
     exact ⟨by show _ ≤ x.tdiv 10; omega, by show x.tdiv 10 ≤ _; omega, by rw [natAbs_tdiv10, hJ3, dig0_step (show x.natAbs ≠ 0 by omega)]; simp⟩
  ·
   replace h2 := not_eq_false h2
   replace h2 := of_decide_eq_true h2
   refine WC.exit ?_
   refine At.thenexit ?_
   refine At.thenexit ?_
   refine At.blockexit ?_
   refine At.then_ ?_
   refine WC.seq' ?_
   refine WC.seq ?_
   refine Qm ?_
   refine WL.p Q0 (Yl.lss Q0 Q0) ?_
   refine WL.next ?_
   refine WC.condS Q0 (fun h3 => ?_) (fun h3 => ?_)
   ·
    replace h3 := of_decide_eq_true h3
    refine WC.seq ?_
    refine Qm ?_
    refine WL.p Q0 (Yl.cat Q0 Q0 (by first | (have e9 := tmod10_abs x; first | omega | (rw [wrap_in Q7]; omega)) | (have e8 := congrArg List.length hJ3; have e7 := dig0_len n.natAbs; have e5 := h_n.lo; have e6 := h_n.hi; simp only [List.length_append, List.length_cons, List.length_nil] at *; omega))) ?_
    refine Qa ?_
    refine WL.next ?_
    refine WC.ret ?_
    refine At.thenret ?_
    refine fin1' rfl Q0 ?_
    refine RetP.mk hs ?_
    have hx0 : x = 0 := by omega
    subst hx0
    first
     | (rw [itoa_neg' Q7, hJ3]; rfl)
     | (rw [itoa_pos Q7 Q7, hJ3]; rfl)
   ·
    replace h3 := of_decide_eq_false h3
    refine WC.skipn ?_
    refine WC.seq ?_
    refine Qm ?_
    refine Qa ?_
    refine WL.next ?_
    refine WC.ret ?_
    refine fin1' rfl Q0 ?_
    refine RetP.mk hs ?_
    have hx0 : x = 0 := by omega
    subst hx0
    first
     | (rw [itoa_neg' Q7, hJ3]; rfl)
     | (rw [itoa_pos Q7 Q7, hJ3]; rfl)

theorem c_spec_l1In (x : Int) (least : Int) (most : Int) (w : World)   : Calls Tryz.prog 95 [I x, I least, I most].toArray w (RetP w (Bo (inR x least most))) := by
 refine enterN 15 Tryz.func95 rfl rfl rfl ?_
 have hs := Sat.start w
 refine WC.seq ?_
 refine Qa ?_
 refine WL.next ?_
 refine WC.seq ?_
 refine Qm ?_
 refine Qm ?_
 refine WL.p Q0 (Yl.geq Q0 Q0) ?_
 refine Qm ?_
 refine WL.split (d := 10) Q0 (fun h1 => ?_) (fun h1 => ?_)
 ·
  replace h1 := of_decide_eq_true h1
  refine WL.run (d := 10) Q0 Q0 ?_
  refine Qm ?_
  refine WL.run (d := 10) Q0 Q0 ?_
  refine Qm ?_
  refine WL.run (d := 10) Q0 Q0 ?_
  refine WL.p Q0 (Yl.leq Q0 Q0) ?_
  refine WL.p Q0 (Yl.pickT Q0 Q0) ?_
  refine Qa ?_
  refine WL.next ?_
  refine WC.ret ?_
  refine fin1' rfl Q0 ?_
  refine RetP.mk hs ?_
  simp [inR, h1]
 ·
  replace h1 := of_decide_eq_false h1
  refine WL.skip (d := 10) Q0 Q0 Q0 Q0 ?_
  refine WL.skip (d := 10) Q0 Q0 Q0 Q0 ?_
  refine WL.skip (d := 10) Q0 Q0 Q0 Q0 ?_
  refine WL.p Q0 (Yl.pickF Q0 Q0) ?_
  refine Qa ?_
  refine WL.next ?_
  refine WC.ret ?_
  refine fin1' rfl Q0 ?_
  refine RetP.mk hs ?_
  rw [inR_false.2 Q7]

theorem c_spec_IsName (s : Str) (w : World) (h_s : Ph.ok w s)  : Calls Tryz.prog 110 [S s].toArray w (RetP w (Bo (isName s))) := by
 have hw : s.length ≤ 9223372036854775807 := h_s
 refine enterN 23 Tryz.func110 rfl rfl rfl ?_
 have hs := Sat.start w
 refine WC.seq ?_
 refine Qa ?_
 refine WL.next ?_
 refine WC.seq' ?_
 refine WC.seq ?_
 refine Qa ?_
 refine WL.next ?_
 refine WC.block ?_
 refine WC.loopC (ι := Nat) (fun k => s.length - k) (fun k => [(3, I (k : Int))]) (fun _ => []) (fun k => s.all lower = (s.drop k).all lower) [(0, _)] 0 (hs) ⟨by rfl, trivial⟩ ⟨by rfl, trivial⟩ ?_ ?_
 ·
  simp
 clear hs; rintro k w hJ hs
 simp only [List.nil_append] at hs
 refine WC.seq' ?_
 refine WC.seq ?_
 refine Qm ?_
 refine Qm ?_
 refine WL.p Q0 (Yl.len_str str9 Q0) ?_
 refine WL.p Q0 (Yl.lss Q0 Q0) ?_
 refine WL.next ?_
 refine WC.condS Q0 (fun h1 => ?_) (fun h1 => ?_)
 ·
  replace h1 := of_decide_eq_true h1
  obtain ⟨d, hd⟩ := exists_get (l := s) (k := k) Q7
  rw [drop_cons hd] at hJ
  refine WC.skipn ?_
  refine WC.seq' ?_
  refine WC.block ?_
  refine WC.seq ?_
  refine Qm ?_
  refine Qm ?_
  refine WL.p Q0 (Yl.index str9 Q0 Q0 Q0 (by first | assumption | exact List.getElem?_eq_getElem Q7)) ?_
  refine WL.p Q0 (Yl.lss Q0 Q0) ?_
  refine Qm ?_
  refine WL.split (d := 14) Q0 (fun h2 => ?_) (fun h2 => ?_)
  ·
   replace h2 := of_decide_eq_true h2
   refine WL.skip (d := 14) Q0 Q0 Q0 Q0 ?_
   refine WL.skip (d := 14) Q0 Q0 Q0 Q0 ?_
   refine WL.skip (d := 14) Q0 Q0 Q0 Q0 ?_
   refine WL.skip (d := 14) Q0 Q0 Q0 Q0 ?_
   refine WL.p Q0 (Yl.pickT Q0 Q0) ?_
   refine WL.next ?_
   refine WC.condT Q0 ?_
   refine WC.seq ?_
   refine Qa ?_
   refine WL.next ?_
   refine WC.ret ?_
   refine At.blockret ?_
   refine At.thenret ?_
   refine At.thenret ?_
   refine At.blockret ?_
   refine At.thenret ?_
   refine fin1' rfl Q0 ?_
   refine RetP.mk hs ?_
   first
    | (simp [isName, hJ, lower]; done)
    | (simp [isName, hJ, lower]; omega)
    | simp_all [isName, hJ, lower]
  ·
   replace h2 := of_decide_eq_false h2
   refine WL.run (d := 14) Q0 Q0 ?_
   refine Qm ?_
   refine WL.run (d := 14) Q0 Q0 ?_
   refine Qm ?_
   refine WL.run (d := 14) Q0 Q0 ?_
   refine WL.p Q0 (Yl.index str9 Q0 Q0 Q0 (by first | assumption | exact List.getElem?_eq_getElem Q7)) ?_
   refine WL.run (d := 14) Q0 Q0 ?_
   refine WL.p Q0 (Yl.gtr Q0 Q0) ?_
   refine WL.p Q0 (Yl.pickF Q0 Q0) ?_
   refine WL.next ?_
   refine WC.condS Q0 (fun h3 => ?_) (fun h3 => ?_)
   ·
    replace h3 := of_decide_eq_true h3
    refine WC.seq ?_
    refine Qa ?_
    refine WL.next ?_
    refine WC.ret ?_
    refine At.blockret ?_
    refine At.thenret ?_
    refine At.thenret ?_
    refine At.blockret ?_
    refine At.thenret ?_
    refine fin1' rfl Q0 ?_
    refine RetP.mk hs ?_
    first
     | (simp [isName, hJ, lower]; done)
     | (simp [isName, hJ, lower]; omega)
     | simp_all [isName, hJ, lower]
   ·
    replace h3 := of_decide_eq_false h3
    refine WC.skip ?_
    refine At.blocknormal ?_
    refine At.then_ ?_
    refine WC.region ?_
    refine Qm ?_
    refine WL.p Q0 (Yl.add Q0 Q0 Q7) ?_
    refine Qa ?_
    refine WL.nil ?_
    refine At.roundC (k + 1) (hs.only Q2) ⟨by rfl, trivial⟩ ⟨by rfl, trivial⟩ ?_ ?_
    ·
     omega
    ·
     rw [hJ]; simp [lower]; omega
 ·
  replace h1 := of_decide_eq_false h1
  rw [drop_out (l := s) Q7] at hJ
  refine WC.exit ?_
  refine At.thenexit ?_
  refine At.thenexit ?_
  refine At.blockexit ?_
  refine At.then_ ?_
  refine WC.seq ?_
  refine Qm ?_
  refine WL.p Q0 (Yl.len_str str9 Q0) ?_
  refine WL.callp hs Q0 (Yc.func Q0 fn95) (c_spec_l1In _ _ _ _) ?_
  clear hs; intro w hs
  refine Qa ?_
  refine WL.next ?_
  refine WC.ret ?_
  refine fin1' rfl Q0 ?_
  refine RetP.mk hs ?_
  first
   | (simp [isName, hJ, lower]; done)
   | (simp [isName, hJ, lower]; omega)
   | simp_all [isName, hJ, lower]

theorem c_spec_ColorOf (l : (Sl PSheet)) (name : Str) (w : World) (h_l : Ph.ok w l)  : Calls Tryz.prog 119 [Sl.v l, S name].toArray w (RetP w (I (colorOf name l.l))) := by
 have hw := h_l.lt
 refine enterN 45 Tryz.func119 rfl rfl rfl ?_
 have hs := Sat.start w
 refine WC.seq ?_
 refine Qa ?_
 refine WL.next ?_
 refine WC.seq' ?_
 refine WC.seq ?_
 refine Qm ?_
 refine WL.p Q0 (Yl.len_sl slu54 Q0) ?_
 refine WL.p Q0 (Yl.sub_ Q0 Q0 Q7) ?_
 refine Qa ?_
 refine WL.next ?_
 refine WC.block ?_
 refine WC.loopC (ι := Nat) (fun k => k) (fun k => [(5, I ((k : Int) - 1))]) (fun _ => []) (fun k => k ≤ l.l.length ∧ colSR name l.l.reverse = colSR name (l.l.take k).reverse) [(0, _), (1, _)] l.l.length (hs) ⟨by rfl, by rfl, trivial⟩ ⟨by rfl, trivial⟩ ?_ ?_
 ·
  exact ⟨Nat.le_refl _, by rw [List.take_length]⟩
 clear hs; rintro k w ⟨hJ1, hJ2⟩ hs
 simp only [List.nil_append] at hs
 have hd2x : ∃ d : PSheet, k ≠ 0 → l.l[k - 1]? = some d := by
  by_cases h9 : k = 0
  · exact ⟨⟨⟨[], none, 0⟩⟩, fun h => absurd h9 h⟩
  · exact ⟨l.l[k - 1]'Q7, fun _ => List.getElem?_eq_getElem Q7⟩
 obtain ⟨d, hd⟩ := hd2x
 refine WC.seq' ?_
 refine WC.seq ?_
 refine Qm ?_
 refine WL.p Q0 (Yl.geq Q0 Q0) ?_
 refine WL.next ?_
 refine WC.condS Q0 (fun h1 => ?_) (fun h1 => ?_)
 ·
  replace h1 := of_decide_eq_true h1
  have hwd := (Sl.Ok.elem h_l (hd Q7)).rules.lt
  refine WC.skipn ?_
  refine WC.seq' ?_
  refine WC.block ?_
  refine WC.seq ?_
  refine Qm ?_
  refine Qm ?_
  refine WL.p Q0 (Yl.indexAddr slt54 Q0 Q0 (Ph.old h_l hs) (by first | rfl | omega) ((hd Q7))) ?_
  refine WL.p Q0 (Yl.fieldAddr fa51_0 Q0) ?_
  refine WL.p Q0 (Yl.loadC sca49 Q0 (Sl.Ok.at_ (Ph.old h_l hs) ((hd Q7))).2 Q0) ?_
  refine WL.p Q0 (Yl.len_sl slu49 Q0) ?_
  refine WL.p Q0 (Yl.sub_ Q0 Q0 Q7) ?_
  refine Qa ?_
  refine WL.next ?_
  refine WC.block ?_
  refine WC.loopC (ι := Nat) (fun m => m) (fun m => [(6, I ((m : Int) - 1))]) (fun _ => []) (fun m => m ≤ d.rules.l.length ∧ colR name d.rules.l.reverse = colR name (d.rules.l.take m).reverse) [(0, _), (1, _), (5, _), (11, _)] d.rules.l.length (hs) ⟨by rfl, by rfl, by rfl, by rfl, trivial⟩ ⟨by rfl, trivial⟩ ?_ ?_
  ·
   exact ⟨Nat.le_refl _, by rw [List.take_length]⟩
  clear hs; rintro m w ⟨hI1, hI2⟩ hs
  simp only [List.nil_append] at hs
  have hd3x : ∃ x : TRule, m ≠ 0 → d.rules.l[m - 1]? = some x := by
   by_cases h9 : m = 0
   · exact ⟨⟨[], 0⟩, fun h => absurd h9 h⟩
   · exact ⟨d.rules.l[m - 1]'Q7, fun _ => List.getElem?_eq_getElem Q7⟩
  obtain ⟨x, hx⟩ := hd3x
  refine WC.seq' ?_
  refine WC.seq ?_
  refine Qm ?_
  refine WL.p Q0 (Yl.geq Q0 Q0) ?_
  refine WL.next ?_
  refine WC.condS Q0 (fun h2 => ?_) (fun h2 => ?_)
  ·
   replace h2 := of_decide_eq_true h2
   refine WC.skipn ?_
   refine WC.seq' ?_
   refine WC.block ?_
   refine WC.seq ?_
   refine Qm ?_
   refine Qm ?_
   refine WL.p Q0 (Yl.indexAddr slt54 Q0 Q0 (Ph.old h_l hs) (by first | rfl | omega) ((hd Q7))) ?_
   refine WL.p Q0 (Yl.fieldAddr fa51_0 Q0) ?_
   refine WL.p Q0 (Yl.loadC sca49 Q0 (Sl.Ok.at_ (Ph.old h_l hs) ((hd Q7))).2 Q0) ?_
   refine Qm ?_
   refine WL.p Q0 (Yl.indexAddr slt49 Q0 Q0 (Ph.old (Sl.Ok.elem h_l (hd Q7)).rules hs) (by first | rfl | omega) ((hx Q7))) ?_
   refine WL.p Q0 (Yl.fieldAddr fa60_0 Q0) ?_
   refine WL.p Q0 (Yl.loadC sca9 Q0 (Sl.Ok.at_ (Ph.old (Sl.Ok.elem h_l (hd Q7)).rules hs) ((hx Q7))).2 Q0) ?_
   refine Qm ?_
   refine WL.p Q0 (Yl.eqs Q0 Q0) ?_
   refine WL.next ?_
   refine WC.condS Q0 (fun h3 => ?_) (fun h3 => ?_)
   ·
    replace h3 := of_decide_eq_true h3
    refine WC.seq ?_
    refine Qm ?_
    refine Qm ?_
    refine WL.p Q0 (Yl.indexAddr slt54 Q0 Q0 (Ph.old h_l hs) (by first | rfl | omega) ((hd Q7))) ?_
    refine WL.p Q0 (Yl.fieldAddr fa51_0 Q0) ?_
    refine WL.p Q0 (Yl.loadC sca49 Q0 (Sl.Ok.at_ (Ph.old h_l hs) ((hd Q7))).2 Q0) ?_
    refine Qm ?_
    refine WL.p Q0 (Yl.indexAddr slt49 Q0 Q0 (Ph.old (Sl.Ok.elem h_l (hd Q7)).rules hs) (by first | rfl | omega) ((hx Q7))) ?_
    refine WL.p Q0 (Yl.fieldAddr fa60_1 Q0) ?_
    refine WL.p Q0 (Yl.loadC sca3 Q0 (Sl.Ok.at_ (Ph.old (Sl.Ok.elem h_l (hd Q7)).rules hs) ((hx Q7))).2 Q0) ?_
    refine Qa ?_
    refine WL.next ?_
    refine WC.ret ?_
    refine At.blockret ?_
    refine At.thenret ?_
    refine At.thenret ?_
    refine At.blockret ?_
    refine At.blockret ?_
    refine At.thenret ?_
    refine At.thenret ?_
    refine At.blockret ?_
    refine At.thenret ?_
    refine fin1' rfl Q0 ?_
    refine RetP.mk hs ?_
    rw [colorOf, hJ2, colSR_some Q7 (hd Q7) (hI2.trans (colR_yes Q7 (hx Q7) (by assumption)))]; rfl
   ·
    replace h3 := of_decide_eq_false h3
    refine WC.skip ?_
    refine At.blocknormal ?_
    refine At.then_ ?_
    refine WC.region ?_
    refine Qm ?_
    refine WL.p Q0 (Yl.sub_ Q0 Q0 Q7) ?_
    refine Qa ?_
    refine WL.nil ?_
    refine At.roundC (m - 1) (hs.only Q2) ⟨by rfl, by rfl, by rfl, by rfl, trivial⟩ ⟨by exact congrArg (fun z => some (I z)) Q7, trivial⟩ ?_ ?_
    ·
     omega
    ·
     exact ⟨by omega, by rw [hI2]; exact colR_no Q7 (hx Q7) (by assumption)⟩
  ·
   replace h2 := of_decide_eq_false h2
   refine WC.exit ?_
   refine At.thenexit ?_
   refine At.thenexit ?_
   refine At.blockexit ?_
   refine At.blocknormal ?_
   refine At.then_ ?_
   refine WC.region ?_
   refine Qm ?_
   refine WL.p Q0 (Yl.sub_ Q0 Q0 Q7) ?_
   refine Qa ?_
   refine WL.nil ?_
   refine At.roundC (k - 1) (hs.only Q2) ⟨by rfl, by rfl, trivial⟩ ⟨by exact congrArg (fun z => some (I z)) Q7, trivial⟩ ?_ ?_
   ·
    omega
   ·
    exact ⟨by omega, by rw [hJ2]; exact colSR_none Q7 (hd Q7) (by rw [hI2, show m = 0 from by omega]; rfl)⟩
 ·
  replace h1 := of_decide_eq_false h1
  refine WC.exit ?_
  refine At.thenexit ?_
  refine At.thenexit ?_
  refine At.blockexit ?_
  refine At.then_ ?_
  refine WC.seq ?_
  refine Qa ?_
  refine WL.next ?_
  refine WC.ret ?_
  refine fin1' rfl Q0 ?_
  refine RetP.mk hs ?_
  rw [colorOf, hJ2, show k = 0 from by omega]; rfl

theorem c_spec_l6Attrs (l : (Sl TAttr)) (w : World) (h_l : Ph.ok w l) (hb : l.l.length ≤ 1048576) : Calls Tryz.prog 218 [Sl.v l].toArray w (Ret w (fun v w' => ∃ x : Sl TAttr, v = x.v ∧ x.l = l.l ∧ Fresh w x w')) := by
 refine enterN 6 Tryz.func218 rfl rfl rfl ?_
 have hs := Sat.start w
 refine WC.seq ?_
 refine Qa ?_
 refine WL.next ?_
 refine WC.seq ?_
 refine WL.r Q0 (Yr.buildSlice hs sll163 Q0 Q0 Q0 Q4 Q0) ?_
 clear hs; rintro _ w ⟨b1, rfl, hb, hs⟩; clear hb
 refine Qm ?_
 replace hs := (Sat.boxow (l := ([] : List TAttr)) (hs.sel (D := [box b1 _ _]) Q2) rfl rfl (by simp [maxLen]) (ownL_mk_flat (by simp)))
 refine WL.r Q0 (Yr.appendS (s := (⟨[], some ⟨b1, 0, none⟩, _⟩ : Sl TAttr)) (F := [b1]) (r := l) hs elt163 Q2 Q0 Q0 (Ph.old h_l hs) (by simp; unfold maxLen; omega) (by simp; omega)) ?_
 clear hs; rintro _ w ⟨s2, F2, rfl, hl2, hs⟩
 refine Qa ?_
 refine WL.next ?_
 refine WC.ret ?_
 refine fin1' rfl Q0 ?_
 refine Ret.mk hs ?_
 exact ⟨s2, rfl, by rw [hl2, List.nil_append], hs.fresh Q1⟩

theorem c_spec_l6Copy (b : PBuilder) (w : World) (h_b : Ph.ok w b) (hb : b.lg.size ≤ 1048576) : Calls Tryz.prog 139 [.agg #[Sl.v b.nodes, Sl.v b.opn]].toArray w (Ret w (fun v w' => ∃ x : PBuilder, v = .agg (Ph.enc x).toArray ∧ x.lg = b.lg ∧ Fresh w x w')) := by
 have hw := h_b.nodes.lt
 have hbn : lsz TNode.size (b.nodes.l.map PNode.lg) ≤ 1048576 := by simp only [TBuilder.size, PBuilder.lg] at hb; simp only [lsz] at *; omega
 have hbo : b.opn.l.length ≤ 1048576 := by simp only [TBuilder.size, PBuilder.lg, lsz] at hb; omega
 have hbl : b.nodes.l.length ≤ 1048576 := by simp only [lsz, List.length_map] at hbn; omega
 refine enterN 38 Tryz.func139 rfl rfl rfl ?_
 have hs := Sat.start w
 refine WC.seq ?_
 refine WL.r Q0 (Yr.box hs Q0 Q0) ?_
 clear hs; rintro _ w ⟨b1, rfl, hb, hs⟩; clear hb
 refine WL.r Q0 (Yr.alloc hs zt64) ?_
 clear hs; rintro _ w ⟨b2, rfl, hb, hs⟩; clear hb
 refine WL.next ?_
 refine WC.seq ?_
 refine WL.r Q0 (Yr.buildSlice hs sll62 Q0 Q0 Q0 Q4 Q0) ?_
 clear hs; rintro _ w ⟨b3, rfl, hb, hs⟩; clear hb
 refine WL.p Q0 (Yl.fieldAddr fa64_1 Q0) ?_
 refine WL.p Q0 (Yl.loadB sca62 Q0 hs Q1 Q0) ?_
 replace hs := (Sat.boxow (l := ([] : List Int)) (hs.sel (D := [box b3 _ _]) Q2) rfl rfl (by simp [maxLen]) (ownL_mk_flat (by simp)))
 refine WL.r Q0 (Yr.appendS (s := (⟨[], some ⟨b3, 0, none⟩, _⟩ : Sl Int)) (F := [b3]) (r := b.opn) hs elt62 Q2 Q0 Q0 (Ph.old h_b.opn hs) (by first | (rw [hql]; unfold maxLen; omega) | (simp; unfold maxLen; omega)) (by first | (rw [hql]; omega) | (simp; omega))) ?_
 clear hs; rintro _ w ⟨s4, F4, rfl, hl4, hs⟩
 refine WL.p Q0 (Yl.build bt64 Q0 Q4) ?_
 refine WL.r Q0 (Yr.alloc hs zt64) ?_
 clear hs; rintro _ w ⟨b5, rfl, hb, hs⟩; clear hb
 refine WL.s (Yr.storeB hs Q0 Q0 Q0 Q5 Q3 Q0 (by exact szf64)) ?_
 clear hs; rintro _ w hs
 refine WL.next ?_
 refine WC.seq' ?_
 refine WC.seq ?_
 refine Qa ?_
 refine WL.next ?_
 refine WC.block ?_
 replace hs := Sat.nilsl (α := PNode) hs
 refine WC.loopC (ι := Nat × Sl PNode × List Nat) (fun ⟨k, q, F⟩ => b.nodes.l.length - k) (fun ⟨k, q, F⟩ => [(4, I (k : Int))]) (fun ⟨k, q, F⟩ => [box b5 64 [Sl.v q, Sl.v s4], ow q F]) (fun ⟨k, q, F⟩ => k ≤ b.nodes.l.length ∧ q.l.map PNode.lg = (b.nodes.l.take k).map PNode.lg) [(0, _), (1, _), (2, _), (3, _)] (0, ⟨[], none, 0⟩, []) (hs.sel (D := [box b5 64 _, ow (⟨[], none, 0⟩ : Sl PNode) []]) Q2) ⟨by rfl, by rfl, by rfl, by rfl, trivial⟩ ⟨by rfl, trivial⟩ ?_ ?_
 ·
  exact ⟨Nat.zero_le _, rfl⟩
 clear hs; rintro ⟨k, q, F⟩ w ⟨hJ1, hJ2⟩ hs
 simp only [List.cons_append, List.nil_append] at hs
 refine WC.seq' ?_
 refine WC.seq ?_
 refine Qm ?_
 refine WL.p Q0 (Yl.fieldAddr fa64_0 Q0) ?_
 refine WL.p Q0 (Yl.loadB sca61 Q0 hs Q1 Q0) ?_
 refine WL.p Q0 (Yl.len_sl slu61 Q0) ?_
 refine WL.p Q0 (Yl.lss Q0 Q0) ?_
 refine WL.next ?_
 refine WC.condS Q0 (fun h1 => ?_) (fun h1 => ?_)
 ·
  replace h1 := of_decide_eq_true h1
  obtain ⟨d, hd⟩ := exists_get (l := b.nodes.l) (k := k) Q7
  have hql : q.l.length = k := by have := congrArg List.length hJ2; simp at this; omega
  have hdl := lsum_le (f := fun d : PNode => d.lg.size) (List.mem_of_getElem? hd)
  have hdf : d.attrs.l.length ≤ 1048576 := by rw [lsz_map] at hbn; simp only [lsz, TNode.size] at hbn hdl; omega
  refine WC.skipn ?_
  refine WC.seq' ?_
  refine WC.block ?_
  refine WC.seq ?_
  refine WL.p Q0 (Yl.fieldAddr fa64_0 Q0) ?_
  refine WL.p Q0 (Yl.loadB sca61 Q0 hs Q1 Q0) ?_
  refine Qm ?_
  refine WL.p Q0 (Yl.indexAddr slt61 Q0 Q0 (Ph.old h_b.nodes hs) Q0 (hd)) ?_
  refine WL.p Q0 (Yl.loadA agg165 Q0 (Sl.Ok.at_ (Ph.old h_b.nodes hs) (by assumption)).2 Q0) ?_
  refine WL.r Q0 (Yr.alloc hs zt165) ?_
  clear hs; rintro _ w ⟨b6, rfl, hb, hs⟩; clear hb
  refine WL.s (Yr.storeB hs Q0 Q0 Q0 Q5 Q3 Q0 (by exact szf165)) ?_
  clear hs; rintro _ w hs
  refine WL.next ?_
  refine WC.seq ?_
  refine WL.p Q0 (Yl.fieldAddr fa64_0 Q0) ?_
  refine WL.p Q0 (Yl.loadB sca61 Q0 hs Q1 Q0) ?_
  refine Qm ?_
  refine WL.p Q0 (Yl.indexAddr slt61 Q0 Q0 (Ph.old h_b.nodes hs) Q0 (hd)) ?_
  refine WL.p Q0 (Yl.fieldAddr fa165_3 Q0) ?_
  refine WL.p Q0 (Yl.loadC sca163 Q0 (Sl.Ok.at_ (Ph.old h_b.nodes hs) (by assumption)).2 Q0) ?_
  refine WL.call hs Q0 (Yc.func Q0 fn218) (c_spec_l6Attrs _ _ (Ph.old (Sl.Ok.elem h_b.nodes hd).attrs hs) (by exact hdf)) ?_
  have hs0 := hs; clear hs; intro v w hb hR hs; clear hs
  obtain ⟨x7, rfl, hx7, hf7⟩ := hR
  obtain ⟨F7, hs⟩ := hf7.sat hs0 hb; clear hs0 hf7
  have hle7 := Sl.Ok.le (hs.okow (x := x7) (F := F7) Q1)
  refine WL.p Q0 (Yl.fieldAddr fa165_3 Q0) ?_
  refine WL.s (Yr.storeB hs Q0 Q0 Q0 Q5 Q3 Q0 (by exact szf163)) ?_
  clear hs; rintro _ w hs
  refine WL.next ?_
  refine WC.region ?_
  refine WL.p Q0 (Yl.fieldAddr fa64_0 Q0) ?_
  refine WL.p Q0 (Yl.loadB sca61 Q0 hs Q1 Q0) ?_
  refine WL.p Q0 (Yl.loadAB agg165 Q0 hs Q1 Q0 Q0) ?_
  refine WL.r Q0 (Yr.buildSlice hs sll61 Q0 Q0 Q0 Q4 Q0) ?_
  clear hs; rintro _ w ⟨b8, rfl, hb, hs⟩; clear hb
  replace hs := PNode.join (⟨d.name, d.text, d.parent, x7⟩ : PNode) (hs.sel (D := [ow x7 F7]) Q2) (by first | exact (Ph.old (Sl.Ok.elem h_b.nodes hd).name hs) | (refine Ph.old ?_ hs; assumption)) (by first | exact (Ph.old (Sl.Ok.elem h_b.nodes hd).text hs) | (refine Ph.old ?_ hs; assumption)) (by first | exact (Ph.old (Sl.Ok.elem h_b.nodes hd).parent hs) | (refine Ph.old ?_ hs; assumption))
  try simp only [List.cons_append, List.nil_append] at hs
  refine WL.r Q0 (Yr.appendE (s := q) (F := F) (u := (⟨d.name, d.text, d.parent, x7⟩ : PNode)) (G := F7) hs elt61 Q2 Q0 Q0 (hs.box_cells Q1) (by first | (rw [hql]; unfold maxLen; omega) | (simp; unfold maxLen; omega)) (by first | (rw [hql]; omega) | (simp; omega))) ?_
  clear hs; rintro _ w ⟨s9, F9, rfl, hl9, hs⟩
  refine WL.p Q0 (Yl.fieldAddr fa64_0 Q0) ?_
  refine WL.s (Yr.storeB hs Q0 Q0 Q0 Q5 Q3 Q0 (by exact szf61)) ?_
  clear hs; rintro _ w hs
  refine WL.nil ?_
  refine At.blocknormal ?_
  refine At.then_ ?_
  refine WC.region ?_
  refine Qm ?_
  refine WL.p Q0 (Yl.add Q0 Q0 Q7) ?_
  refine Qa ?_
  refine WL.nil ?_
  refine At.roundC (k + 1, s9, F9) (hs.only Q2) ⟨by rfl, by rfl, by rfl, by rfl, trivial⟩ ⟨by rfl, trivial⟩ ?_ ?_
  ·
   show b.nodes.l.length - (k + 1) < b.nodes.l.length - k
   omega
  ·
   exact ⟨by omega, by rw [hl9, List.map_append, hJ2, List.take_add_one, hd]; simp [PNode.lg, *]⟩
 ·
  replace h1 := of_decide_eq_false h1
  refine WC.exit ?_
  refine At.thenexit ?_
  refine At.thenexit ?_
  refine At.blockexit ?_
  refine At.then_ ?_
  refine WC.seq ?_
  refine WL.p Q0 (Yl.loadAB agg64 Q0 hs Q1 Q0 Q0) ?_
  refine WL.s (Yr.storeB hs Q0 Q0 Q0 Q5 Q3 Q0 (by exact szf64)) ?_
  clear hs; rintro _ w hs
  refine WL.next ?_
  refine WC.ret ?_
  refine fin1c rfl agg64 Q0 hs Q1 Q0 ?_
  refine Ret.mk hs ?_
  refine ⟨⟨q, s4⟩, rfl, ?_, ?_⟩
  · have hk9 : List.take k (List.map PNode.lg b.nodes.l) = List.map PNode.lg b.nodes.l := List.take_of_length_le (by simp; omega); simp_all [PBuilder.lg]
  · exact (PBuilder.join _ (hs.only (D := [ow q F, ow s4 F4]) Q2) ).fresh List.mem_cons_self

theorem c_spec_MarkupOf (s : Str) (w : World)  (hb : s.length ≤ 1048576) : Calls Tryz.prog 140 [S s].toArray w (RetP w (S (s.map mkB))) := by
 exact mo_spec s w hb

end Go.Sw
