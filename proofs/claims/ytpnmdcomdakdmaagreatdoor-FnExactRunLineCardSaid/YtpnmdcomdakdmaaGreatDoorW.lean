/- Walks: what each function of the program returns, for every input. Printed by gen.py. -/
import Derived.Test.YtpnmdcomdakdmaaGreatDoorW0
set_option linter.all false
namespace Go.Sw
open Go Go.RowKit Go.Proofs

theorem c_laws_heldNodeS (a : (Sl PNode)) (k : Int) (v : List TNode) (w : World) (h_a : Ph.ok w a) (hk0 : 0 ≤ k) (hk : k + ((costL costNode (v) : Nat) : Int) ≤ 100000000) (hm : a.l.map PNode.lg = mkL mkNode costNode k v) : Calls Tryz.prog 154 [Sl.v a, I k].toArray w (RetP w (I (k + ((costL costNode (v) : Nat) : Int)))) := by
 have hw := h_a.lt
 have hc : a.l.length = v.length := by have := congrArg List.length hm; simpa [mkL_length] using this
 refine enterN 51 Tryz.func154 rfl rfl rfl ?_
 have hs := Sat.start w
 refine WC.seq ?_
 refine Qa ?_
 refine WL.next ?_
 refine WC.seq' ?_
 refine WC.seq ?_
 refine Qa ?_
 refine WL.next ?_
 refine WC.block ?_
 refine WC.loopC (ι := Nat) (fun n => a.l.length - n) (fun n => [(5, I (n : Int)), (1, I (k + ((costL costNode (v.take n) : Nat) : Int)))]) (fun _ => []) (fun n => n ≤ a.l.length) [(0, _)] 0 (hs) ⟨by rfl, trivial⟩ ⟨by rfl, by exact congrArg (fun z => some (I z)) (by simp [costL]), trivial⟩ ?_ ?_
 ·
  exact Nat.zero_le _
 clear hs; rintro n w hJ1 hs
 simp only [List.nil_append] at hs
 refine WC.seq' ?_
 refine WC.seq ?_
 refine Qm ?_
 refine Qm ?_
 refine WL.p Q0 (Yl.len_sl slu61 Q0) ?_
 refine WL.p Q0 (Yl.lss Q0 Q0) ?_
 refine WL.next ?_
 refine WC.condS Q0 (fun h1 => ?_) (fun h1 => ?_)
 ·
  replace h1 := of_decide_eq_true h1
  obtain ⟨d, hd⟩ := exists_get (l := a.l) (k := n) Q7
  obtain ⟨y, hy⟩ := exists_get (l := v) (k := n) Q7
  have hm0 : (a.l.map PNode.lg)[n]? = some d.lg := by rw [List.getElem?_map, hd]; rfl
  have hdy : d.lg = mkNode (k + ((costL costNode (v.take n) : Nat) : Int)) y := by rw [hm, mkL_get hy] at hm0; exact (Option.some.inj hm0).symm
  have hsp := costL_split (cost := costNode) hy
  simp only [costNode] at hsp
  refine WC.skipn ?_
  refine WC.seq' ?_
  refine WC.block ?_
  refine WC.seq' ?_
  refine WC.quietn mixed Q6 hs ?_
  refine WQ.p Q0 (fun w hs => Yl.move Q0) ?_
  refine WQ.p Q0 (fun w hs => Yl.move Q0) ?_
  refine WQ.p Q0 (fun w hs => Yl.indexAddr slt61 Q0 Q0 (Ph.old h_a hs) Q0 (hd)) ?_
  refine WQ.p Q0 (fun w hs => Yl.fieldAddr fa165_0 Q0) ?_
  refine WQ.p Q0 (fun w hs => Yl.loadC sca9 Q0 (Sl.Ok.at_ (Ph.old h_a hs) (by assumption)).2 Q0) ?_
  refine WQ.p Q0 (fun w hs => Yl.move Q0) ?_
  refine WQ.callp Q0 (fun w => Yc.func Q0 fn172) (fun w hs => (c_laws_markText _ _ Q7)) (fun _ _ hs hb => hs.ext hb) ?_
  refine WQ.p Q0 (fun w hs => Yl.nes Q0 Q0) ?_
  refine WQ.next ?_
  clear hs; intro w hs
  refine WC.condS Q0 (fun h2 => ?_) (fun h2 => ?_)
  ·
   replace h2 := not_eq_true h2
   replace h2 := of_decide_eq_false h2
   refine WC.seq ?_
   refine Qa ?_
   refine WL.next ?_
   refine WC.ret ?_
   refine At.thenret ?_
   refine At.blockret ?_
   refine At.thenret ?_
   refine At.thenret ?_
   refine At.blockret ?_
   refine At.thenret ?_
   refine fin1' rfl Q0 ?_
   refine RetP.mk hs ?_
   first
    | exact absurd rfl h2
    | exact absurd (congrArg TNode.name hdy) h2
    | exact absurd (congrArg TNode.text hdy) h2
    | exact absurd (congrArg TNode.parent hdy) h2
    | (exfalso; omega)
    | exact congrArg I (by rw [List.take_of_length_le Q7])
  ·
   replace h2 := not_eq_false h2
   replace h2 := of_decide_eq_true h2
   refine WC.skipn ?_
   refine WC.seq ?_
   refine Qm ?_
   refine WL.p Q0 (Yl.add Q0 Q0 Q7) ?_
   refine Qa ?_
   refine WL.next ?_
   refine WC.seq' ?_
   refine WC.quietn mixed Q6 hs ?_
   refine WQ.p Q0 (fun w hs => Yl.move Q0) ?_
   refine WQ.p Q0 (fun w hs => Yl.move Q0) ?_
   refine WQ.p Q0 (fun w hs => Yl.indexAddr slt61 Q0 Q0 (Ph.old h_a hs) Q0 (hd)) ?_
   refine WQ.p Q0 (fun w hs => Yl.fieldAddr fa165_1 Q0) ?_
   refine WQ.p Q0 (fun w hs => Yl.loadC sca9 Q0 (Sl.Ok.at_ (Ph.old h_a hs) (by assumption)).2 Q0) ?_
   refine WQ.p Q0 (fun w hs => Yl.move Q0) ?_
   refine WQ.callp Q0 (fun w => Yc.func Q0 fn172) (fun w hs => (c_laws_markText _ _ Q7)) (fun _ _ hs hb => hs.ext hb) ?_
   refine WQ.p Q0 (fun w hs => Yl.nes Q0 Q0) ?_
   refine WQ.next ?_
   clear hs; intro w hs
   refine WC.condS Q0 (fun h3 => ?_) (fun h3 => ?_)
   ·
    replace h3 := not_eq_true h3
    replace h3 := of_decide_eq_false h3
    refine WC.seq ?_
    refine Qa ?_
    refine WL.next ?_
    refine WC.ret ?_
    refine At.thenret ?_
    refine At.blockret ?_
    refine At.thenret ?_
    refine At.thenret ?_
    refine At.blockret ?_
    refine At.thenret ?_
    refine fin1' rfl Q0 ?_
    refine RetP.mk hs ?_
    first
     | exact absurd rfl h3
     | exact absurd (congrArg TNode.name hdy) h3
     | exact absurd (congrArg TNode.text hdy) h3
     | exact absurd (congrArg TNode.parent hdy) h3
     | (exfalso; omega)
     | exact congrArg I (by rw [List.take_of_length_le Q7])
   ·
    replace h3 := not_eq_false h3
    replace h3 := of_decide_eq_true h3
    refine WC.skipn ?_
    refine WC.seq ?_
    refine Qm ?_
    refine WL.p Q0 (Yl.add Q0 Q0 Q7) ?_
    refine Qa ?_
    refine WL.next ?_
    refine WC.seq' ?_
    refine WC.seq ?_
    refine Qm ?_
    refine Qm ?_
    refine WL.p Q0 (Yl.indexAddr slt61 Q0 Q0 (Ph.old h_a hs) Q0 (hd)) ?_
    refine WL.p Q0 (Yl.fieldAddr fa165_2 Q0) ?_
    refine WL.p Q0 (Yl.loadC sca3 Q0 (Sl.Ok.at_ (Ph.old h_a hs) (by assumption)).2 Q0) ?_
    refine Qm ?_
    refine WL.p Q0 (Yl.nei Q0 Q0) ?_
    refine WL.next ?_
    refine WC.condS Q0 (fun h4 => ?_) (fun h4 => ?_)
    ·
     replace h4 := not_eq_true h4
     replace h4 := of_decide_eq_false h4
     refine WC.seq ?_
     refine Qa ?_
     refine WL.next ?_
     refine WC.ret ?_
     refine At.thenret ?_
     refine At.blockret ?_
     refine At.thenret ?_
     refine At.thenret ?_
     refine At.blockret ?_
     refine At.thenret ?_
     refine fin1' rfl Q0 ?_
     refine RetP.mk hs ?_
     first
      | exact absurd rfl h4
      | exact absurd (congrArg TNode.name hdy) h4
      | exact absurd (congrArg TNode.text hdy) h4
      | exact absurd (congrArg TNode.parent hdy) h4
      | (exfalso; omega)
      | exact congrArg I (by rw [List.take_of_length_le Q7])
    ·
     replace h4 := not_eq_false h4
     replace h4 := of_decide_eq_true h4
     refine WC.skipn ?_
     refine WC.seq ?_
     refine Qm ?_
     refine WL.p Q0 (Yl.add Q0 Q0 Q7) ?_
     refine Qa ?_
     refine WL.next ?_
     refine WC.seq ?_
     refine Qm ?_
     refine Qm ?_
     refine WL.p Q0 (Yl.indexAddr slt61 Q0 Q0 (Ph.old h_a hs) Q0 (hd)) ?_
     refine WL.p Q0 (Yl.fieldAddr fa165_3 Q0) ?_
     refine WL.p Q0 (Yl.loadC sca163 Q0 (Sl.Ok.at_ (Ph.old h_a hs) (by assumption)).2 Q0) ?_
     refine Qm ?_
     refine WL.callp hs Q0 (Yc.func Q0 fn226) (c_laws_heldAttrS _ _ y.attrs _ (Ph.old (Sl.Ok.elem h_a hd).attrs hs) Q10 Q10 (by exact congrArg TNode.attrs hdy)) ?_
     clear hs; intro w hs
     refine Qa ?_
     refine WL.next ?_
     refine WC.seq ?_
     refine Qm ?_
     refine WL.p Q0 (Yl.lss Q0 Q0) ?_
     refine WL.next ?_
     refine WC.condS Q0 (fun h5 => ?_) (fun h5 => ?_)
     ·
      replace h5 := of_decide_eq_true h5
      refine WC.seq ?_
      refine Qa ?_
      refine WL.next ?_
      refine WC.ret ?_
      refine At.blockret ?_
      refine At.thenret ?_
      refine At.thenret ?_
      refine At.blockret ?_
      refine At.thenret ?_
      refine fin1' rfl Q0 ?_
      refine RetP.mk hs ?_
      first
       | exact absurd rfl h5
       | exact absurd (congrArg TNode.name hdy) h5
       | exact absurd (congrArg TNode.text hdy) h5
       | exact absurd (congrArg TNode.parent hdy) h5
       | (exfalso; omega)
       | exact congrArg I (by rw [List.take_of_length_le Q7])
     ·
      replace h5 := of_decide_eq_false h5
      refine WC.skip ?_
      refine At.blocknormal ?_
      refine At.then_ ?_
      refine WC.region ?_
      refine Qm ?_
      refine WL.p Q0 (Yl.add Q0 Q0 Q7) ?_
      refine Qa ?_
      refine WL.nil ?_
      refine At.roundC (n + 1) (hs.only Q2) ⟨by rfl, trivial⟩ ⟨by rfl, by exact congrArg (fun z => some (I z)) (by rw [costL_step hy]; simp only [costNode]; omega), trivial⟩ ?_ ?_
      ·
       omega
      ·
       omega
 ·
  replace h1 := of_decide_eq_false h1
  refine WC.exit ?_
  refine At.thenexit ?_
  refine At.thenexit ?_
  refine At.blockexit ?_
  refine At.then_ ?_
  refine WC.seq ?_
  refine Qm ?_
  refine Qa ?_
  refine WL.next ?_
  refine WC.ret ?_
  refine fin1' rfl Q0 ?_
  refine RetP.mk hs ?_
  first
   | exact absurd rfl h1
   | exact absurd (congrArg TNode.name hdy) h1
   | exact absurd (congrArg TNode.text hdy) h1
   | exact absurd (congrArg TNode.parent hdy) h1
   | (exfalso; omega)
   | exact congrArg I (by rw [List.take_of_length_le Q7])

theorem c_laws_heldIntS (a : (Sl Int)) (k : Int) (v : List Int) (w : World) (h_a : Ph.ok w a) (hk0 : 0 ≤ k) (hk : k + ((costL (fun _ => 1) (v) : Nat) : Int) ≤ 100000000) (hm : a.l = mkL mkInt (fun _ => 1) k v) : Calls Tryz.prog 155 [Sl.v a, I k].toArray w (RetP w (I (k + ((costL (fun _ => 1) (v) : Nat) : Int)))) := by
 have hw := h_a.lt
 have hc : a.l.length = v.length := by rw [hm, mkL_length]
 have hk2 := hk
 rw [costL_const] at hk2
 refine enterN 21 Tryz.func155 rfl rfl rfl ?_
 have hs := Sat.start w
 refine WC.seq ?_
 refine Qa ?_
 refine WL.next ?_
 refine WC.seq' ?_
 refine WC.seq ?_
 refine Qa ?_
 refine WL.next ?_
 refine WC.block ?_
 refine WC.loopC (ι := Nat) (fun n => a.l.length - n) (fun n => [(5, I (n : Int)), (1, I (k + ((n : Nat) : Int)))]) (fun _ => []) (fun n => n ≤ a.l.length) [(0, _)] 0 (hs) ⟨by rfl, trivial⟩ ⟨by rfl, by exact congrArg (fun z => some (I z)) Q7, trivial⟩ ?_ ?_
 ·
  exact Nat.zero_le _
 clear hs; rintro n w hJ1 hs
 simp only [List.nil_append] at hs
 refine WC.seq' ?_
 refine WC.seq ?_
 refine Qm ?_
 refine Qm ?_
 refine WL.p Q0 (Yl.len_sl slu62 Q0) ?_
 refine WL.p Q0 (Yl.lss Q0 Q0) ?_
 refine WL.next ?_
 refine WC.condS Q0 (fun h1 => ?_) (fun h1 => ?_)
 ·
  replace h1 := of_decide_eq_true h1
  obtain ⟨y, hy⟩ := exists_get (l := v) (k := n) Q7
  have hd : a.l[n]? = some (mkInt (k + ((n : Nat) : Int)) y) := by rw [hm, mkL_get hy, costL_take_const Q7, Nat.one_mul]
  refine WC.skipn ?_
  refine WC.seq' ?_
  refine WC.block ?_
  refine WC.seq' ?_
  refine WC.seq ?_
  refine Qm ?_
  refine Qm ?_
  refine WL.p Q0 (Yl.indexAddr slt62 Q0 Q0 (Ph.old h_a hs) Q0 (hd)) ?_
  refine WL.p Q0 (Yl.loadC0 sca3 Q0 (Sl.Ok.at_ (Ph.old h_a hs) (by assumption)).2 Q0) ?_
  refine Qm ?_
  refine WL.p Q0 (Yl.nei Q0 Q0) ?_
  refine WL.next ?_
  refine WC.condS Q0 (fun h2 => ?_) (fun h2 => ?_)
  ·
   replace h2 := not_eq_true h2
   replace h2 := of_decide_eq_false h2
   refine WC.seq ?_
   refine Qa ?_
   refine WL.next ?_
   refine WC.ret ?_
   refine At.thenret ?_
   refine At.blockret ?_
   refine At.thenret ?_
   refine At.thenret ?_
   refine At.blockret ?_
   refine At.thenret ?_
   refine fin1' rfl Q0 ?_
   refine RetP.mk hs ?_
   first
    | exact absurd rfl h2
    | (exfalso; omega)
    | (rw [costL_const]; exact congrArg I Q7)
  ·
   replace h2 := not_eq_false h2
   replace h2 := of_decide_eq_true h2
   refine WC.skipn ?_
   refine WC.region ?_
   refine Qm ?_
   refine WL.p Q0 (Yl.add Q0 Q0 Q7) ?_
   refine Qa ?_
   refine WL.nil ?_
   refine At.blocknormal ?_
   refine At.then_ ?_
   refine WC.region ?_
   refine Qm ?_
   refine WL.p Q0 (Yl.add Q0 Q0 Q7) ?_
   refine Qa ?_
   refine WL.nil ?_
   refine At.roundC (n + 1) (hs.only Q2) ⟨by rfl, trivial⟩ ⟨by rfl, by exact congrArg (fun z => some (I z)) Q7, trivial⟩ ?_ ?_
   ·
    omega
   ·
    omega
 ·
  replace h1 := of_decide_eq_false h1
  refine WC.exit ?_
  refine At.thenexit ?_
  refine At.thenexit ?_
  refine At.blockexit ?_
  refine At.then_ ?_
  refine WC.seq ?_
  refine Qm ?_
  refine Qa ?_
  refine WL.next ?_
  refine WC.ret ?_
  refine fin1' rfl Q0 ?_
  refine RetP.mk hs ?_
  first
   | exact absurd rfl h1
   | (exfalso; omega)
   | (rw [costL_const]; exact congrArg I Q7)

theorem c_laws_heldBuilder (a : PBuilder) (k : Int) (v : TBuilder) (w : World) (h_a : Ph.ok w a) (hk0 : 0 ≤ k) (hk : k + ((costoBuilder v : Nat) : Int) ≤ 100000000) (hm : a.lg = mkoBuilder k v) : Calls Tryz.prog 59 [.agg #[Sl.v a.nodes, Sl.v a.opn], I k].toArray w (RetP w (I (k + ((costoBuilder v : Nat) : Int)))) := by
 have hk2 := hk
 simp only [costoBuilder, costoBuilder] at hk2
 refine enterN 18 Tryz.func59 rfl rfl rfl ?_
 have hs := Sat.start w
 refine WC.seq ?_
 refine WL.r Q0 (Yr.box hs Q0 Q0) ?_
 clear hs; rintro _ w ⟨b1, rfl, hb, hs⟩; clear hb
 refine Qa ?_
 refine WL.next ?_
 refine WC.seq ?_
 refine WL.p Q0 (Yl.fieldAddr fa64_0 Q0) ?_
 refine WL.p Q0 (Yl.loadB sca61 Q0 hs Q1 Q0) ?_
 refine Qm ?_
 refine WL.callp hs Q0 (Yc.func Q0 fn154) (c_laws_heldNodeS _ _ v.nodes _ (Ph.old h_a.nodes hs) Q12 Q12 (by exact congrArg TBuilder.nodes hm)) ?_
 clear hs; intro w hs
 refine Qa ?_
 refine WL.next ?_
 refine WC.seq' ?_
 refine WC.seq ?_
 refine Qm ?_
 refine WL.p Q0 (Yl.lss Q0 Q0) ?_
 refine WL.next ?_
 refine WC.condS Q0 (fun h1 => ?_) (fun h1 => ?_)
 ·
  replace h1 := of_decide_eq_true h1
  refine WC.seq ?_
  refine Qa ?_
  refine WL.next ?_
  refine WC.ret ?_
  refine At.thenret ?_
  refine fin1' rfl Q0 ?_
  refine RetP.mk hs ?_
  first
   | (exfalso; omega)
   | rfl
   | exact congrArg I (by simp only [costoBuilder, costoBuilder]; omega)
 ·
  replace h1 := of_decide_eq_false h1
  refine WC.skipn ?_
  refine WC.seq ?_
  refine WL.p Q0 (Yl.fieldAddr fa64_1 Q0) ?_
  refine WL.p Q0 (Yl.loadB sca62 Q0 hs Q1 Q0) ?_
  refine Qm ?_
  refine WL.callp hs Q0 (Yc.func Q0 fn155) (c_laws_heldIntS _ _ v.opn _ (Ph.old h_a.opn hs) Q12 Q12 (by exact congrArg TBuilder.opn hm)) ?_
  clear hs; intro w hs
  refine Qa ?_
  refine WL.next ?_
  refine WC.seq' ?_
  refine WC.seq ?_
  refine Qm ?_
  refine WL.p Q0 (Yl.lss Q0 Q0) ?_
  refine WL.next ?_
  refine WC.condS Q0 (fun h2 => ?_) (fun h2 => ?_)
  ·
   replace h2 := of_decide_eq_true h2
   refine WC.seq ?_
   refine Qa ?_
   refine WL.next ?_
   refine WC.ret ?_
   refine At.thenret ?_
   refine fin1' rfl Q0 ?_
   refine RetP.mk hs ?_
   first
    | (exfalso; omega)
    | rfl
    | exact congrArg I (by simp only [costoBuilder, costoBuilder]; omega)
  ·
   replace h2 := of_decide_eq_false h2
   refine WC.skipn ?_
   refine WC.seq ?_
   refine Qm ?_
   refine Qa ?_
   refine WL.next ?_
   refine WC.ret ?_
   refine fin1' rfl Q0 ?_
   refine RetP.mk hs ?_
   first
    | (exfalso; omega)
    | rfl
    | exact congrArg I (by simp only [costoBuilder, costoBuilder]; omega)

set_option maxHeartbeats 4000000 in
theorem c_laws_FnExactRunLine (aB : PBuilder) (aSheets : (Sl PSheet)) (aX : TLine) (w : World) (h_aB : Ph.ok w aB) (h_aSheets : Ph.ok w aSheets) (h_aX : Ph.ok w aX) (ht_ : Tab10 Tryz.prog w) : Calls Tryz.prog 7 [.agg #[Sl.v aB.nodes, Sl.v aB.opn], Sl.v aSheets, .agg #[I aX.op, S aX.text]].toArray w (RetP w (Bo true)) := by
 refine enterN 153 Tryz.func7 rfl rfl rfl ?_
 have hs := Sat.start w
 refine WC.seq ?_
 refine WL.r Q0 (Yr.box hs Q0 Q0) ?_
 clear hs; rintro _ w ⟨b1, rfl, hb, hs⟩; clear hb
 refine WL.r Q0 (Yr.box hs Q0 Q0) ?_
 clear hs; rintro _ w ⟨b2, rfl, hb, hs⟩; clear hb
 refine Qa ?_
 refine WL.next ?_
 refine WC.seq ?_
 refine Qa ?_
 refine WL.next ?_
 refine WC.seq ?_
 refine WL.p Q0 (Yl.loadAB agg95 Q0 hs Q1 Q0 Q0) ?_
 refine Qm ?_
 refine WL.callp hs Q0 (Yc.func Q0 fn49) (c_laws_szBuilder _ _ _ (Ph.old h_aB hs) (by first | assumption | omega) (by first | assumption | omega)) ?_
 clear hs; intro w hs
 refine Qa ?_
 refine WL.next ?_
 refine WC.seq' ?_
 refine WC.seq ?_
 refine Qm ?_
 refine WL.p Q0 (Yl.lss Q0 Q0) ?_
 refine WL.next ?_
 refine WC.condS Q0 (fun h1 => ?_) (fun h1 => ?_)
 ·
  replace h1 := lessN_neg (of_decide_eq_true h1)
  refine WC.seq ?_
  refine Qa ?_
  refine WL.next ?_
  refine WC.ret ?_
  refine At.thenret ?_
  refine fin1' rfl Q0 ?_
  refine RetP.mk hs ?_
  rfl
 ·
  replace h1 := lessN_nn Q7 (of_decide_eq_false h1)
  refine WC.skipn ?_
  refine WC.seq ?_
  refine Qm ?_
  refine Qm ?_
  refine WL.callp hs Q0 (Yc.func Q0 fn50) (c_laws_szSheetS _ _ _ (Ph.old h_aSheets hs) (by first | assumption | omega) (by first | assumption | omega)) ?_
  clear hs; intro w hs
  refine Qa ?_
  refine WL.next ?_
  refine WC.seq' ?_
  refine WC.seq ?_
  refine Qm ?_
  refine WL.p Q0 (Yl.lss Q0 Q0) ?_
  refine WL.next ?_
  refine WC.condS Q0 (fun h2 => ?_) (fun h2 => ?_)
  ·
   replace h2 := lessN_neg (of_decide_eq_true h2)
   refine WC.seq ?_
   refine Qa ?_
   refine WL.next ?_
   refine WC.ret ?_
   refine At.thenret ?_
   refine fin1' rfl Q0 ?_
   refine RetP.mk hs ?_
   rfl
  ·
   replace h2 := lessN_nn Q7 (of_decide_eq_false h2)
   refine WC.skipn ?_
   refine WC.seq ?_
   refine WL.p Q0 (Yl.loadAB agg97 Q0 hs Q1 Q0 Q0) ?_
   refine Qm ?_
   refine WL.callp hs Q0 (Yc.func Q0 fn51) (c_laws_szLine _ _ _ (Ph.old h_aX hs) (by first | assumption | omega) (by first | assumption | omega)) ?_
   clear hs; intro w hs
   refine Qa ?_
   refine WL.next ?_
   refine WC.seq' ?_
   refine WC.seq ?_
   refine Qm ?_
   refine WL.p Q0 (Yl.lss Q0 Q0) ?_
   refine WL.next ?_
   refine WC.condS Q0 (fun h3 => ?_) (fun h3 => ?_)
   ·
    replace h3 := lessN_neg (of_decide_eq_true h3)
    refine WC.seq ?_
    refine Qa ?_
    refine WL.next ?_
    refine WC.ret ?_
    refine At.thenret ?_
    refine fin1' rfl Q0 ?_
    refine RetP.mk hs ?_
    rfl
   ·
    replace h3 := lessN_nn Q7 (of_decide_eq_false h3)
    refine WC.skipn ?_
    refine WC.anynJ (ι := Nat × PBuilder × List Nat) (fun ⟨b, _, _⟩ => [(8, bp b 0), (9, S (if aX.op = 1 then aX.text.map mkB else [])), (10, S (runSaid aB.lg (aSheets.l.map PSheet.lg) aX))]) (fun ⟨b, x, F⟩ => [box b 64 (Ph.enc x), ow x F]) (fun ⟨_, x, _⟩ => x.lg = runOut aB.lg aX) [(0, _), (1, _), (2, _), (3, _), (5, _), (6, _), (7, _), (22, _), (23, _), (24, _), (25, _), (26, _), (27, _), (28, _), (29, _), (30, _), (31, _), (32, _), (33, _), (34, _), (35, _), (36, _)] mixed hs ⟨by rfl, by rfl, by rfl, by rfl, by rfl, by rfl, by rfl, by rfl, by rfl, by rfl, by rfl, by rfl, by rfl, by rfl, by rfl, by rfl, by rfl, by rfl, by rfl, by rfl, by rfl, by rfl, trivial⟩ ?_ ?_
    ·
     clear hs; intro join w hs
     refine WA.pq 0 Q0 hs (fun w hs => Yl.loadAB agg95 Q0 hs Q1 Q0 Q0) ?_
     refine WA.pq 2 Q0 hs (fun w hs => Yl.move Q0) ?_
     refine WA.pq 4 Q0 hs (fun w hs => Yl.loadAB agg97 Q0 hs Q1 Q0 Q0) ?_
     refine WA.two (i := 1) (j := 11) Q6 ?_ ?_
     ·
      refine WI.callq 1 Q0 hs (Yc.func Q0 fn52) (c_laws_toBuilder _ _ (Ph.old h_aB hs) (by first | assumption | omega)) ?_
      have hs0 := hs; clear hs; intro v w hb hR hs; clear hs
      obtain ⟨x3, rfl, hx3, hf3⟩ := hR
      obtain ⟨F3, hs⟩ := hf3.sat hs0 hb; clear hs0 hf3
      refine WA.two (i := 3) (j := 11) Q6 ?_ ?_
      ·
       refine WI.callq 3 Q0 hs (Yc.func Q0 fn53) (c_laws_toSheetS _ _ (Ph.old h_aSheets hs) (by first | assumption | omega)) ?_
       have hs0 := hs; clear hs; intro v w hb hR hs; clear hs
       obtain ⟨x4, rfl, hx4, hf4⟩ := hR
       obtain ⟨F4, hs⟩ := hf4.sat hs0 hb; clear hs0 hf4
       have hle4 := Sl.Ok.le (hs.okow (x := x4) (F := F4) Q1)
       refine WA.two (i := 5) (j := 11) Q6 ?_ ?_
       ·
        refine WI.callp2 (i := 5) hs (fun _ hs => hs.only Q2) Q0 Q0 (Yc.func Q0 fn54) (c_laws_toLine _ _) ?_
        clear hs; intro w hs
        refine WA.two (i := 6) (j := 11) Q6 ?_ ?_
        ·
         refine WI.callq 6 Q0 hs (Yc.func Q0 fn48) (c_spec_RunLine _ _ _ _ (hs.okow (x := x3) (F := F3) Q1) (hs.okow (x := x4) (F := F4) Q1) (Ph.old h_aX hs) (by first | (rw [hx1]; omega) | (rw [hx2]; omega) | (rw [hx3]; omega) | (rw [hx4]; omega) | (rw [hx5]; omega) | (rw [hx6]; omega) | (rw [hx7]; omega) | (rw [hx8]; omega) | (rw [hx9]; omega) | (rw [hx10]; omega) | (rw [hx11]; omega) | (rw [hx12]; omega) | (rw [hx13]; omega) | (rw [hx14]; omega) | (rw [hx15]; omega) | (rw [hx16]; omega) | (rw [hx17]; omega) | (rw [hx18]; omega) | (rw [hx19]; omega) | (rw [hx20]; omega) | (rw [hx21]; omega) | (rw [hx22]; omega) | (rw [hx23]; omega) | (rw [hx24]; omega) | (rw [hx25]; omega) | (rw [hx26]; omega) | (rw [hx27]; omega) | (rw [hx28]; omega) | (rw [hx29]; omega) | (rw [hx30]; omega) | (rw [hx31]; omega) | (rw [hx32]; omega) | (rw [hx33]; omega) | (rw [hx34]; omega) | (rw [hx35]; omega) | (rw [hx36]; omega) | (rw [hx37]; omega) | (rw [hx38]; omega) | (rw [hx39]; omega) | (rw [hx40]; omega) | (rw [hx41]; omega) | (rw [hx42]; omega) | (rw [hx43]; omega) | (rw [hx44]; omega) | (rw [hx45]; omega) | (rw [hx46]; omega) | (rw [hx47]; omega) | (rw [hx48]; omega) | (rw [hx49]; omega) | (rw [hx50]; omega) | (rw [hx51]; omega) | (rw [hx52]; omega) | (rw [hx53]; omega) | (rw [hx54]; omega) | (rw [hx55]; omega) | (rw [hx56]; omega) | (rw [hx57]; omega) | (rw [hx58]; omega) | (rw [hx59]; omega) | (simp only [PPolicy.lg] at *; omega)) (by first | omega | (simp only [TLine.size] at *; omega))) ?_
         have hs0 := hs; clear hs; intro v w hb hR hs; clear hs
         obtain ⟨x5, rfl, hx5, hf5⟩ := hR
         obtain ⟨F5, hs⟩ := hf5.sat hs0 hb; clear hs0 hf5
         refine WA.pq 7 Q0 hs (fun w hs => Yl.move Q0) ?_
         refine WA.pq 8 Q0 hs (fun w hs => Yl.extract Q0 Q0) ?_
         refine WA.pq 9 Q0 hs (fun w hs => Yl.extract Q0 Q0) ?_
         refine WA.pq 10 Q0 hs (fun w hs => Yl.extract Q0 Q0) ?_
         refine WA.alq 11 Q0 hs zt64 ?_
         clear hs; intro b6 w hs
         refine WA.stq 12 Q0 hs szf64 ?_
         clear hs; intro w hs
         refine WA.pq 13 Q0 hs (fun w hs => Yl.assign Q0) ?_
         refine WA.pq 14 Q0 hs (fun w hs => Yl.assign Q0) ?_
         refine WA.donen Q6 ?_
         exact join ⟨b6, x5, F5⟩ w _ (by simp only [hx3, hx4, hx5]) (hs.only Q2) ⟨by rfl, by rfl, by rfl, by rfl, by rfl, by rfl, by rfl, by rfl, by rfl, by rfl, by rfl, by rfl, by rfl, by rfl, by rfl, by rfl, by rfl, by rfl, by rfl, by rfl, by rfl, by rfl, trivial⟩ ⟨by rfl, by rfl, by exact congrArg (fun z => some (S z)) (by simp only [hx3, hx4, hx5]), trivial⟩
        ·
         refine WI.alq 11 Q0 hs zt64 ?_
         clear hs; intro b7 w hs
         refine WA.callq 6 Q0 hs (Yc.func Q0 fn48) (c_spec_RunLine _ _ _ _ (hs.okow (x := x3) (F := F3) Q1) (hs.okow (x := x4) (F := F4) Q1) (Ph.old h_aX hs) (by first | (rw [hx1]; omega) | (rw [hx2]; omega) | (rw [hx3]; omega) | (rw [hx4]; omega) | (rw [hx5]; omega) | (rw [hx6]; omega) | (rw [hx7]; omega) | (rw [hx8]; omega) | (rw [hx9]; omega) | (rw [hx10]; omega) | (rw [hx11]; omega) | (rw [hx12]; omega) | (rw [hx13]; omega) | (rw [hx14]; omega) | (rw [hx15]; omega) | (rw [hx16]; omega) | (rw [hx17]; omega) | (rw [hx18]; omega) | (rw [hx19]; omega) | (rw [hx20]; omega) | (rw [hx21]; omega) | (rw [hx22]; omega) | (rw [hx23]; omega) | (rw [hx24]; omega) | (rw [hx25]; omega) | (rw [hx26]; omega) | (rw [hx27]; omega) | (rw [hx28]; omega) | (rw [hx29]; omega) | (rw [hx30]; omega) | (rw [hx31]; omega) | (rw [hx32]; omega) | (rw [hx33]; omega) | (rw [hx34]; omega) | (rw [hx35]; omega) | (rw [hx36]; omega) | (rw [hx37]; omega) | (rw [hx38]; omega) | (rw [hx39]; omega) | (rw [hx40]; omega) | (rw [hx41]; omega) | (rw [hx42]; omega) | (rw [hx43]; omega) | (rw [hx44]; omega) | (rw [hx45]; omega) | (rw [hx46]; omega) | (rw [hx47]; omega) | (rw [hx48]; omega) | (rw [hx49]; omega) | (rw [hx50]; omega) | (rw [hx51]; omega) | (rw [hx52]; omega) | (rw [hx53]; omega) | (rw [hx54]; omega) | (rw [hx55]; omega) | (rw [hx56]; omega) | (rw [hx57]; omega) | (rw [hx58]; omega) | (rw [hx59]; omega) | (simp only [PPolicy.lg] at *; omega)) (by first | omega | (simp only [TLine.size] at *; omega))) ?_
         have hs0 := hs; clear hs; intro v w hb hR hs; clear hs
         obtain ⟨x8, rfl, hx8, hf8⟩ := hR
         obtain ⟨F8, hs⟩ := hf8.sat hs0 hb; clear hs0 hf8
         refine WA.pq 7 Q0 hs (fun w hs => Yl.move Q0) ?_
         refine WA.pq 8 Q0 hs (fun w hs => Yl.extract Q0 Q0) ?_
         refine WA.pq 9 Q0 hs (fun w hs => Yl.extract Q0 Q0) ?_
         refine WA.pq 10 Q0 hs (fun w hs => Yl.extract Q0 Q0) ?_
         refine WA.stq 12 Q0 hs szf64 ?_
         clear hs; intro w hs
         refine WA.pq 13 Q0 hs (fun w hs => Yl.assign Q0) ?_
         refine WA.pq 14 Q0 hs (fun w hs => Yl.assign Q0) ?_
         refine WA.donen Q6 ?_
         exact join ⟨b7, x8, F8⟩ w _ (by simp only [hx3, hx4, hx8]) (hs.only Q2) ⟨by rfl, by rfl, by rfl, by rfl, by rfl, by rfl, by rfl, by rfl, by rfl, by rfl, by rfl, by rfl, by rfl, by rfl, by rfl, by rfl, by rfl, by rfl, by rfl, by rfl, by rfl, by rfl, trivial⟩ ⟨by rfl, by rfl, by exact congrArg (fun z => some (S z)) (by simp only [hx3, hx4, hx8]), trivial⟩
       ·
        refine WI.alq 11 Q0 hs zt64 ?_
        clear hs; intro b9 w hs
        refine WA.callp2 (i := 5) hs (fun _ hs => hs.only Q2) Q6 Q0 Q0 (Yc.func Q0 fn54) (c_laws_toLine _ _) ?_
        clear hs; intro w hs
        refine WA.callq 6 Q0 hs (Yc.func Q0 fn48) (c_spec_RunLine _ _ _ _ (hs.okow (x := x3) (F := F3) Q1) (hs.okow (x := x4) (F := F4) Q1) (Ph.old h_aX hs) (by first | (rw [hx1]; omega) | (rw [hx2]; omega) | (rw [hx3]; omega) | (rw [hx4]; omega) | (rw [hx5]; omega) | (rw [hx6]; omega) | (rw [hx7]; omega) | (rw [hx8]; omega) | (rw [hx9]; omega) | (rw [hx10]; omega) | (rw [hx11]; omega) | (rw [hx12]; omega) | (rw [hx13]; omega) | (rw [hx14]; omega) | (rw [hx15]; omega) | (rw [hx16]; omega) | (rw [hx17]; omega) | (rw [hx18]; omega) | (rw [hx19]; omega) | (rw [hx20]; omega) | (rw [hx21]; omega) | (rw [hx22]; omega) | (rw [hx23]; omega) | (rw [hx24]; omega) | (rw [hx25]; omega) | (rw [hx26]; omega) | (rw [hx27]; omega) | (rw [hx28]; omega) | (rw [hx29]; omega) | (rw [hx30]; omega) | (rw [hx31]; omega) | (rw [hx32]; omega) | (rw [hx33]; omega) | (rw [hx34]; omega) | (rw [hx35]; omega) | (rw [hx36]; omega) | (rw [hx37]; omega) | (rw [hx38]; omega) | (rw [hx39]; omega) | (rw [hx40]; omega) | (rw [hx41]; omega) | (rw [hx42]; omega) | (rw [hx43]; omega) | (rw [hx44]; omega) | (rw [hx45]; omega) | (rw [hx46]; omega) | (rw [hx47]; omega) | (rw [hx48]; omega) | (rw [hx49]; omega) | (rw [hx50]; omega) | (rw [hx51]; omega) | (rw [hx52]; omega) | (rw [hx53]; omega) | (rw [hx54]; omega) | (rw [hx55]; omega) | (rw [hx56]; omega) | (rw [hx57]; omega) | (rw [hx58]; omega) | (rw [hx59]; omega) | (simp only [PPolicy.lg] at *; omega)) (by first | omega | (simp only [TLine.size] at *; omega))) ?_
        have hs0 := hs; clear hs; intro v w hb hR hs; clear hs
        obtain ⟨x10, rfl, hx10, hf10⟩ := hR
        obtain ⟨F10, hs⟩ := hf10.sat hs0 hb; clear hs0 hf10
        refine WA.pq 7 Q0 hs (fun w hs => Yl.move Q0) ?_
        refine WA.pq 8 Q0 hs (fun w hs => Yl.extract Q0 Q0) ?_
        refine WA.pq 9 Q0 hs (fun w hs => Yl.extract Q0 Q0) ?_
        refine WA.pq 10 Q0 hs (fun w hs => Yl.extract Q0 Q0) ?_
        refine WA.stq 12 Q0 hs szf64 ?_
        clear hs; intro w hs
        refine WA.pq 13 Q0 hs (fun w hs => Yl.assign Q0) ?_
        refine WA.pq 14 Q0 hs (fun w hs => Yl.assign Q0) ?_
        refine WA.donen Q6 ?_
        exact join ⟨b9, x10, F10⟩ w _ (by simp only [hx3, hx4, hx10]) (hs.only Q2) ⟨by rfl, by rfl, by rfl, by rfl, by rfl, by rfl, by rfl, by rfl, by rfl, by rfl, by rfl, by rfl, by rfl, by rfl, by rfl, by rfl, by rfl, by rfl, by rfl, by rfl, by rfl, by rfl, trivial⟩ ⟨by rfl, by rfl, by exact congrArg (fun z => some (S z)) (by simp only [hx3, hx4, hx10]), trivial⟩
      ·
       refine WI.alq 11 Q0 hs zt64 ?_
       clear hs; intro b11 w hs
       refine WA.callq 3 Q0 hs (Yc.func Q0 fn53) (c_laws_toSheetS _ _ (Ph.old h_aSheets hs) (by first | assumption | omega)) ?_
       have hs0 := hs; clear hs; intro v w hb hR hs; clear hs
       obtain ⟨x12, rfl, hx12, hf12⟩ := hR
       obtain ⟨F12, hs⟩ := hf12.sat hs0 hb; clear hs0 hf12
       have hle12 := Sl.Ok.le (hs.okow (x := x12) (F := F12) Q1)
       refine WA.callp2 (i := 5) hs (fun _ hs => hs.only Q2) Q6 Q0 Q0 (Yc.func Q0 fn54) (c_laws_toLine _ _) ?_
       clear hs; intro w hs
       refine WA.callq 6 Q0 hs (Yc.func Q0 fn48) (c_spec_RunLine _ _ _ _ (hs.okow (x := x3) (F := F3) Q1) (hs.okow (x := x12) (F := F12) Q1) (Ph.old h_aX hs) (by first | (rw [hx1]; omega) | (rw [hx2]; omega) | (rw [hx3]; omega) | (rw [hx4]; omega) | (rw [hx5]; omega) | (rw [hx6]; omega) | (rw [hx7]; omega) | (rw [hx8]; omega) | (rw [hx9]; omega) | (rw [hx10]; omega) | (rw [hx11]; omega) | (rw [hx12]; omega) | (rw [hx13]; omega) | (rw [hx14]; omega) | (rw [hx15]; omega) | (rw [hx16]; omega) | (rw [hx17]; omega) | (rw [hx18]; omega) | (rw [hx19]; omega) | (rw [hx20]; omega) | (rw [hx21]; omega) | (rw [hx22]; omega) | (rw [hx23]; omega) | (rw [hx24]; omega) | (rw [hx25]; omega) | (rw [hx26]; omega) | (rw [hx27]; omega) | (rw [hx28]; omega) | (rw [hx29]; omega) | (rw [hx30]; omega) | (rw [hx31]; omega) | (rw [hx32]; omega) | (rw [hx33]; omega) | (rw [hx34]; omega) | (rw [hx35]; omega) | (rw [hx36]; omega) | (rw [hx37]; omega) | (rw [hx38]; omega) | (rw [hx39]; omega) | (rw [hx40]; omega) | (rw [hx41]; omega) | (rw [hx42]; omega) | (rw [hx43]; omega) | (rw [hx44]; omega) | (rw [hx45]; omega) | (rw [hx46]; omega) | (rw [hx47]; omega) | (rw [hx48]; omega) | (rw [hx49]; omega) | (rw [hx50]; omega) | (rw [hx51]; omega) | (rw [hx52]; omega) | (rw [hx53]; omega) | (rw [hx54]; omega) | (rw [hx55]; omega) | (rw [hx56]; omega) | (rw [hx57]; omega) | (rw [hx58]; omega) | (rw [hx59]; omega) | (simp only [PPolicy.lg] at *; omega)) (by first | omega | (simp only [TLine.size] at *; omega))) ?_
       have hs0 := hs; clear hs; intro v w hb hR hs; clear hs
       obtain ⟨x13, rfl, hx13, hf13⟩ := hR
       obtain ⟨F13, hs⟩ := hf13.sat hs0 hb; clear hs0 hf13
       refine WA.pq 7 Q0 hs (fun w hs => Yl.move Q0) ?_
       refine WA.pq 8 Q0 hs (fun w hs => Yl.extract Q0 Q0) ?_
       refine WA.pq 9 Q0 hs (fun w hs => Yl.extract Q0 Q0) ?_
       refine WA.pq 10 Q0 hs (fun w hs => Yl.extract Q0 Q0) ?_
       refine WA.stq 12 Q0 hs szf64 ?_
       clear hs; intro w hs
       refine WA.pq 13 Q0 hs (fun w hs => Yl.assign Q0) ?_
       refine WA.pq 14 Q0 hs (fun w hs => Yl.assign Q0) ?_
       refine WA.donen Q6 ?_
       exact join ⟨b11, x13, F13⟩ w _ (by simp only [hx3, hx12, hx13]) (hs.only Q2) ⟨by rfl, by rfl, by rfl, by rfl, by rfl, by rfl, by rfl, by rfl, by rfl, by rfl, by rfl, by rfl, by rfl, by rfl, by rfl, by rfl, by rfl, by rfl, by rfl, by rfl, by rfl, by rfl, trivial⟩ ⟨by rfl, by rfl, by exact congrArg (fun z => some (S z)) (by simp only [hx3, hx12, hx13]), trivial⟩
     ·
      refine WI.alq 11 Q0 hs zt64 ?_
      clear hs; intro b14 w hs
      refine WA.callq 1 Q0 hs (Yc.func Q0 fn52) (c_laws_toBuilder _ _ (Ph.old h_aB hs) (by first | assumption | omega)) ?_
      have hs0 := hs; clear hs; intro v w hb hR hs; clear hs
      obtain ⟨x15, rfl, hx15, hf15⟩ := hR
      obtain ⟨F15, hs⟩ := hf15.sat hs0 hb; clear hs0 hf15
      refine WA.callq 3 Q0 hs (Yc.func Q0 fn53) (c_laws_toSheetS _ _ (Ph.old h_aSheets hs) (by first | assumption | omega)) ?_
      have hs0 := hs; clear hs; intro v w hb hR hs; clear hs
      obtain ⟨x16, rfl, hx16, hf16⟩ := hR
      obtain ⟨F16, hs⟩ := hf16.sat hs0 hb; clear hs0 hf16
      have hle16 := Sl.Ok.le (hs.okow (x := x16) (F := F16) Q1)
      refine WA.callp2 (i := 5) hs (fun _ hs => hs.only Q2) Q6 Q0 Q0 (Yc.func Q0 fn54) (c_laws_toLine _ _) ?_
      clear hs; intro w hs
      refine WA.callq 6 Q0 hs (Yc.func Q0 fn48) (c_spec_RunLine _ _ _ _ (hs.okow (x := x15) (F := F15) Q1) (hs.okow (x := x16) (F := F16) Q1) (Ph.old h_aX hs) (by first | (rw [hx1]; omega) | (rw [hx2]; omega) | (rw [hx3]; omega) | (rw [hx4]; omega) | (rw [hx5]; omega) | (rw [hx6]; omega) | (rw [hx7]; omega) | (rw [hx8]; omega) | (rw [hx9]; omega) | (rw [hx10]; omega) | (rw [hx11]; omega) | (rw [hx12]; omega) | (rw [hx13]; omega) | (rw [hx14]; omega) | (rw [hx15]; omega) | (rw [hx16]; omega) | (rw [hx17]; omega) | (rw [hx18]; omega) | (rw [hx19]; omega) | (rw [hx20]; omega) | (rw [hx21]; omega) | (rw [hx22]; omega) | (rw [hx23]; omega) | (rw [hx24]; omega) | (rw [hx25]; omega) | (rw [hx26]; omega) | (rw [hx27]; omega) | (rw [hx28]; omega) | (rw [hx29]; omega) | (rw [hx30]; omega) | (rw [hx31]; omega) | (rw [hx32]; omega) | (rw [hx33]; omega) | (rw [hx34]; omega) | (rw [hx35]; omega) | (rw [hx36]; omega) | (rw [hx37]; omega) | (rw [hx38]; omega) | (rw [hx39]; omega) | (rw [hx40]; omega) | (rw [hx41]; omega) | (rw [hx42]; omega) | (rw [hx43]; omega) | (rw [hx44]; omega) | (rw [hx45]; omega) | (rw [hx46]; omega) | (rw [hx47]; omega) | (rw [hx48]; omega) | (rw [hx49]; omega) | (rw [hx50]; omega) | (rw [hx51]; omega) | (rw [hx52]; omega) | (rw [hx53]; omega) | (rw [hx54]; omega) | (rw [hx55]; omega) | (rw [hx56]; omega) | (rw [hx57]; omega) | (rw [hx58]; omega) | (rw [hx59]; omega) | (simp only [PPolicy.lg] at *; omega)) (by first | omega | (simp only [TLine.size] at *; omega))) ?_
      have hs0 := hs; clear hs; intro v w hb hR hs; clear hs
      obtain ⟨x17, rfl, hx17, hf17⟩ := hR
      obtain ⟨F17, hs⟩ := hf17.sat hs0 hb; clear hs0 hf17
      refine WA.pq 7 Q0 hs (fun w hs => Yl.move Q0) ?_
      refine WA.pq 8 Q0 hs (fun w hs => Yl.extract Q0 Q0) ?_
      refine WA.pq 9 Q0 hs (fun w hs => Yl.extract Q0 Q0) ?_
      refine WA.pq 10 Q0 hs (fun w hs => Yl.extract Q0 Q0) ?_
      refine WA.stq 12 Q0 hs szf64 ?_
      clear hs; intro w hs
      refine WA.pq 13 Q0 hs (fun w hs => Yl.assign Q0) ?_
      refine WA.pq 14 Q0 hs (fun w hs => Yl.assign Q0) ?_
      refine WA.donen Q6 ?_
      exact join ⟨b14, x17, F17⟩ w _ (by simp only [hx15, hx16, hx17]) (hs.only Q2) ⟨by rfl, by rfl, by rfl, by rfl, by rfl, by rfl, by rfl, by rfl, by rfl, by rfl, by rfl, by rfl, by rfl, by rfl, by rfl, by rfl, by rfl, by rfl, by rfl, by rfl, by rfl, by rfl, trivial⟩ ⟨by rfl, by rfl, by exact congrArg (fun z => some (S z)) (by simp only [hx15, hx16, hx17]), trivial⟩
    ·
     clear hs; rintro ⟨b18, x18, F18⟩ w hx18 hs
     simp only [List.cons_append, List.nil_append] at hs
     replace hx18 : x18.lg = runOut aB.lg aX := hx18
     refine WC.seq ?_
     refine WL.p Q0 (Yl.loadAB agg95 Q0 hs Q1 Q0 Q0) ?_
     refine WL.call hs Q0 (Yc.func Q0 fn52) (c_laws_toBuilder _ _ (Ph.old h_aB hs) (by first | assumption | omega)) ?_
     have hs0 := hs; clear hs; intro v w hb hR hs; clear hs
     obtain ⟨x19, rfl, hx19, hf19⟩ := hR
     obtain ⟨F19, hs⟩ := hf19.sat hs0 hb; clear hs0 hf19
     refine WL.r Q0 (Yr.alloc hs zt64) ?_
     clear hs; rintro _ w ⟨b20, rfl, hb, hs⟩; clear hb
     refine WL.s (Yr.storeB hs Q0 Q0 Q0 Q5 Q3 Q0 (by exact szf64)) ?_
     clear hs; rintro _ w hs
     refine WL.next ?_
     refine WC.seq ?_
     refine Qm ?_
     refine WL.call hs Q0 (Yc.func Q0 fn53) (c_laws_toSheetS _ _ (Ph.old h_aSheets hs) (by first | assumption | omega)) ?_
     have hs0 := hs; clear hs; intro v w hb hR hs; clear hs
     obtain ⟨x21, rfl, hx21, hf21⟩ := hR
     obtain ⟨F21, hs⟩ := hf21.sat hs0 hb; clear hs0 hf21
     have hle21 := Sl.Ok.le (hs.okow (x := x21) (F := F21) Q1)
     refine Qa ?_
     refine WL.next ?_
     refine WC.anynJ (ι := Nat × PBuilder × List Nat) (fun ⟨b, _, _⟩ => [(13, bp b 0), (14, S (if aX.op = 1 then aX.text.map mkB else [])), (15, S (runSaid aB.lg (aSheets.l.map PSheet.lg) aX))]) (fun ⟨b, x, F⟩ => [box b 64 (Ph.enc x), ow x F]) (fun ⟨_, x, _⟩ => x.lg = runOut aB.lg aX) [(0, _), (1, _), (2, _), (3, _), (5, _), (6, _), (7, _), (8, _), (9, _), (10, _), (11, _), (12, _), (22, _), (23, _), (24, _), (25, _), (26, _), (27, _), (28, _), (29, _), (30, _), (31, _), (32, _), (33, _), (34, _), (35, _), (36, _), (48, _), (49, _), (50, _), (51, _)] mixed hs ⟨by rfl, by rfl, by rfl, by rfl, by rfl, by rfl, by rfl, by rfl, by rfl, by rfl, by rfl, by rfl, by rfl, by rfl, by rfl, by rfl, by rfl, by rfl, by rfl, by rfl, by rfl, by rfl, by rfl, by rfl, by rfl, by rfl, by rfl, by rfl, by rfl, by rfl, by rfl, trivial⟩ ?_ ?_
     ·
      clear hs; intro join w hs
      refine WA.pq 0 Q0 hs (fun w hs => Yl.loadAB agg64 Q0 hs Q1 Q0 Q0) ?_
      refine WA.pq 1 Q0 hs (fun w hs => Yl.move Q0) ?_
      refine WA.pq 2 Q0 hs (fun w hs => Yl.loadAB agg97 Q0 hs Q1 Q0 Q0) ?_
      refine WA.two (i := 3) (j := 9) Q6 ?_ ?_
      ·
       refine WI.callp2 (i := 3) hs (fun _ hs => hs.only Q2) Q0 Q0 (Yc.func Q0 fn54) (c_laws_toLine _ _) ?_
       clear hs; intro w hs
       refine WA.two (i := 4) (j := 9) Q6 ?_ ?_
       ·
        refine WI.callq 4 Q0 hs (Yc.func Q0 fn43) (c_impl_RunLine _ _ _ _ (hs.okow (x := x19) (F := F19) Q1) (hs.okow (x := x21) (F := F21) Q1) (Ph.old h_aX hs) (by first | (rw [hx1]; omega) | (rw [hx2]; omega) | (rw [hx3]; omega) | (rw [hx4]; omega) | (rw [hx5]; omega) | (rw [hx6]; omega) | (rw [hx7]; omega) | (rw [hx8]; omega) | (rw [hx9]; omega) | (rw [hx10]; omega) | (rw [hx11]; omega) | (rw [hx12]; omega) | (rw [hx13]; omega) | (rw [hx14]; omega) | (rw [hx15]; omega) | (rw [hx16]; omega) | (rw [hx17]; omega) | (rw [hx18]; omega) | (rw [hx19]; omega) | (rw [hx20]; omega) | (rw [hx21]; omega) | (rw [hx22]; omega) | (rw [hx23]; omega) | (rw [hx24]; omega) | (rw [hx25]; omega) | (rw [hx26]; omega) | (rw [hx27]; omega) | (rw [hx28]; omega) | (rw [hx29]; omega) | (rw [hx30]; omega) | (rw [hx31]; omega) | (rw [hx32]; omega) | (rw [hx33]; omega) | (rw [hx34]; omega) | (rw [hx35]; omega) | (rw [hx36]; omega) | (rw [hx37]; omega) | (rw [hx38]; omega) | (rw [hx39]; omega) | (rw [hx40]; omega) | (rw [hx41]; omega) | (rw [hx42]; omega) | (rw [hx43]; omega) | (rw [hx44]; omega) | (rw [hx45]; omega) | (rw [hx46]; omega) | (rw [hx47]; omega) | (rw [hx48]; omega) | (rw [hx49]; omega) | (rw [hx50]; omega) | (rw [hx51]; omega) | (rw [hx52]; omega) | (rw [hx53]; omega) | (rw [hx54]; omega) | (rw [hx55]; omega) | (rw [hx56]; omega) | (rw [hx57]; omega) | (rw [hx58]; omega) | (rw [hx59]; omega) | (simp only [PPolicy.lg] at *; omega)) (by first | omega | (simp only [TLine.size] at *; omega)) (by first | assumption | exact Sat.tab hs (by assumption))) ?_
        have hs0 := hs; clear hs; intro v w hb hR hs; clear hs
        obtain ⟨x22, rfl, hx22, hf22⟩ := hR
        obtain ⟨F22, hs⟩ := hf22.sat hs0 hb; clear hs0 hf22
        refine WA.pq 5 Q0 hs (fun w hs => Yl.move Q0) ?_
        refine WA.pq 6 Q0 hs (fun w hs => Yl.extract Q0 Q0) ?_
        refine WA.pq 7 Q0 hs (fun w hs => Yl.extract Q0 Q0) ?_
        refine WA.pq 8 Q0 hs (fun w hs => Yl.extract Q0 Q0) ?_
        refine WA.alq 9 Q0 hs zt64 ?_
        clear hs; intro b23 w hs
        refine WA.stq 10 Q0 hs szf64 ?_
        clear hs; intro w hs
        refine WA.pq 11 Q0 hs (fun w hs => Yl.assign Q0) ?_
        refine WA.pq 12 Q0 hs (fun w hs => Yl.assign Q0) ?_
        refine WA.donen Q6 ?_
        exact join ⟨b23, x22, F22⟩ w _ (by simp only [hx18, hx19, hx21, hx22]) (hs.only Q2) ⟨by rfl, by rfl, by rfl, by rfl, by rfl, by rfl, by rfl, by rfl, by rfl, by rfl, by rfl, by rfl, by rfl, by rfl, by rfl, by rfl, by rfl, by rfl, by rfl, by rfl, by rfl, by rfl, by rfl, by rfl, by rfl, by rfl, by rfl, by rfl, by rfl, by rfl, by rfl, trivial⟩ ⟨by rfl, by rfl, by exact congrArg (fun z => some (S z)) (by simp only [hx18, hx19, hx21, hx22]), trivial⟩
       ·
        refine WI.alq 9 Q0 hs zt64 ?_
        clear hs; intro b24 w hs
        refine WA.callq 4 Q0 hs (Yc.func Q0 fn43) (c_impl_RunLine _ _ _ _ (hs.okow (x := x19) (F := F19) Q1) (hs.okow (x := x21) (F := F21) Q1) (Ph.old h_aX hs) (by first | (rw [hx1]; omega) | (rw [hx2]; omega) | (rw [hx3]; omega) | (rw [hx4]; omega) | (rw [hx5]; omega) | (rw [hx6]; omega) | (rw [hx7]; omega) | (rw [hx8]; omega) | (rw [hx9]; omega) | (rw [hx10]; omega) | (rw [hx11]; omega) | (rw [hx12]; omega) | (rw [hx13]; omega) | (rw [hx14]; omega) | (rw [hx15]; omega) | (rw [hx16]; omega) | (rw [hx17]; omega) | (rw [hx18]; omega) | (rw [hx19]; omega) | (rw [hx20]; omega) | (rw [hx21]; omega) | (rw [hx22]; omega) | (rw [hx23]; omega) | (rw [hx24]; omega) | (rw [hx25]; omega) | (rw [hx26]; omega) | (rw [hx27]; omega) | (rw [hx28]; omega) | (rw [hx29]; omega) | (rw [hx30]; omega) | (rw [hx31]; omega) | (rw [hx32]; omega) | (rw [hx33]; omega) | (rw [hx34]; omega) | (rw [hx35]; omega) | (rw [hx36]; omega) | (rw [hx37]; omega) | (rw [hx38]; omega) | (rw [hx39]; omega) | (rw [hx40]; omega) | (rw [hx41]; omega) | (rw [hx42]; omega) | (rw [hx43]; omega) | (rw [hx44]; omega) | (rw [hx45]; omega) | (rw [hx46]; omega) | (rw [hx47]; omega) | (rw [hx48]; omega) | (rw [hx49]; omega) | (rw [hx50]; omega) | (rw [hx51]; omega) | (rw [hx52]; omega) | (rw [hx53]; omega) | (rw [hx54]; omega) | (rw [hx55]; omega) | (rw [hx56]; omega) | (rw [hx57]; omega) | (rw [hx58]; omega) | (rw [hx59]; omega) | (simp only [PPolicy.lg] at *; omega)) (by first | omega | (simp only [TLine.size] at *; omega)) (by first | assumption | exact Sat.tab hs (by assumption))) ?_
        have hs0 := hs; clear hs; intro v w hb hR hs; clear hs
        obtain ⟨x25, rfl, hx25, hf25⟩ := hR
        obtain ⟨F25, hs⟩ := hf25.sat hs0 hb; clear hs0 hf25
        refine WA.pq 5 Q0 hs (fun w hs => Yl.move Q0) ?_
        refine WA.pq 6 Q0 hs (fun w hs => Yl.extract Q0 Q0) ?_
        refine WA.pq 7 Q0 hs (fun w hs => Yl.extract Q0 Q0) ?_
        refine WA.pq 8 Q0 hs (fun w hs => Yl.extract Q0 Q0) ?_
        refine WA.stq 10 Q0 hs szf64 ?_
        clear hs; intro w hs
        refine WA.pq 11 Q0 hs (fun w hs => Yl.assign Q0) ?_
        refine WA.pq 12 Q0 hs (fun w hs => Yl.assign Q0) ?_
        refine WA.donen Q6 ?_
        exact join ⟨b24, x25, F25⟩ w _ (by simp only [hx18, hx19, hx21, hx25]) (hs.only Q2) ⟨by rfl, by rfl, by rfl, by rfl, by rfl, by rfl, by rfl, by rfl, by rfl, by rfl, by rfl, by rfl, by rfl, by rfl, by rfl, by rfl, by rfl, by rfl, by rfl, by rfl, by rfl, by rfl, by rfl, by rfl, by rfl, by rfl, by rfl, by rfl, by rfl, by rfl, by rfl, trivial⟩ ⟨by rfl, by rfl, by exact congrArg (fun z => some (S z)) (by simp only [hx18, hx19, hx21, hx25]), trivial⟩
      ·
       refine WI.alq 9 Q0 hs zt64 ?_
       clear hs; intro b26 w hs
       refine WA.callp2 (i := 3) hs (fun _ hs => hs.only Q2) Q6 Q0 Q0 (Yc.func Q0 fn54) (c_laws_toLine _ _) ?_
       clear hs; intro w hs
       refine WA.callq 4 Q0 hs (Yc.func Q0 fn43) (c_impl_RunLine _ _ _ _ (hs.okow (x := x19) (F := F19) Q1) (hs.okow (x := x21) (F := F21) Q1) (Ph.old h_aX hs) (by first | (rw [hx1]; omega) | (rw [hx2]; omega) | (rw [hx3]; omega) | (rw [hx4]; omega) | (rw [hx5]; omega) | (rw [hx6]; omega) | (rw [hx7]; omega) | (rw [hx8]; omega) | (rw [hx9]; omega) | (rw [hx10]; omega) | (rw [hx11]; omega) | (rw [hx12]; omega) | (rw [hx13]; omega) | (rw [hx14]; omega) | (rw [hx15]; omega) | (rw [hx16]; omega) | (rw [hx17]; omega) | (rw [hx18]; omega) | (rw [hx19]; omega) | (rw [hx20]; omega) | (rw [hx21]; omega) | (rw [hx22]; omega) | (rw [hx23]; omega) | (rw [hx24]; omega) | (rw [hx25]; omega) | (rw [hx26]; omega) | (rw [hx27]; omega) | (rw [hx28]; omega) | (rw [hx29]; omega) | (rw [hx30]; omega) | (rw [hx31]; omega) | (rw [hx32]; omega) | (rw [hx33]; omega) | (rw [hx34]; omega) | (rw [hx35]; omega) | (rw [hx36]; omega) | (rw [hx37]; omega) | (rw [hx38]; omega) | (rw [hx39]; omega) | (rw [hx40]; omega) | (rw [hx41]; omega) | (rw [hx42]; omega) | (rw [hx43]; omega) | (rw [hx44]; omega) | (rw [hx45]; omega) | (rw [hx46]; omega) | (rw [hx47]; omega) | (rw [hx48]; omega) | (rw [hx49]; omega) | (rw [hx50]; omega) | (rw [hx51]; omega) | (rw [hx52]; omega) | (rw [hx53]; omega) | (rw [hx54]; omega) | (rw [hx55]; omega) | (rw [hx56]; omega) | (rw [hx57]; omega) | (rw [hx58]; omega) | (rw [hx59]; omega) | (simp only [PPolicy.lg] at *; omega)) (by first | omega | (simp only [TLine.size] at *; omega)) (by first | assumption | exact Sat.tab hs (by assumption))) ?_
       have hs0 := hs; clear hs; intro v w hb hR hs; clear hs
       obtain ⟨x27, rfl, hx27, hf27⟩ := hR
       obtain ⟨F27, hs⟩ := hf27.sat hs0 hb; clear hs0 hf27
       refine WA.pq 5 Q0 hs (fun w hs => Yl.move Q0) ?_
       refine WA.pq 6 Q0 hs (fun w hs => Yl.extract Q0 Q0) ?_
       refine WA.pq 7 Q0 hs (fun w hs => Yl.extract Q0 Q0) ?_
       refine WA.pq 8 Q0 hs (fun w hs => Yl.extract Q0 Q0) ?_
       refine WA.stq 10 Q0 hs szf64 ?_
       clear hs; intro w hs
       refine WA.pq 11 Q0 hs (fun w hs => Yl.assign Q0) ?_
       refine WA.pq 12 Q0 hs (fun w hs => Yl.assign Q0) ?_
       refine WA.donen Q6 ?_
       exact join ⟨b26, x27, F27⟩ w _ (by simp only [hx18, hx19, hx21, hx27]) (hs.only Q2) ⟨by rfl, by rfl, by rfl, by rfl, by rfl, by rfl, by rfl, by rfl, by rfl, by rfl, by rfl, by rfl, by rfl, by rfl, by rfl, by rfl, by rfl, by rfl, by rfl, by rfl, by rfl, by rfl, by rfl, by rfl, by rfl, by rfl, by rfl, by rfl, by rfl, by rfl, by rfl, trivial⟩ ⟨by rfl, by rfl, by exact congrArg (fun z => some (S z)) (by simp only [hx18, hx19, hx21, hx27]), trivial⟩
     ·
      clear hs; rintro ⟨b28, x28, F28⟩ w hx28 hs
      simp only [List.cons_append, List.nil_append] at hs
      replace hx28 : x28.lg = runOut aB.lg aX := hx28
      refine WC.seq' ?_
      refine WC.seq ?_
      refine WL.p Q0 (Yl.loadAB agg64 Q0 hs Q1 Q0 Q0) ?_
      refine WL.p Q0 (Yl.loadAB agg64 Q0 hs Q1 Q0 Q0) ?_
      refine WL.callp hs Q0 (Yc.func Q0 fn55) (c_laws_eqBuilder _ _ _ ⟨(hs.okow (x := x28) (F := F28) Q1).nodes, (hs.okow (x := x28) (F := F28) Q1).opn⟩ ⟨(hs.okow (x := x18) (F := F18) Q1).nodes, (hs.okow (x := x18) (F := F18) Q1).opn⟩) ?_
      clear hs; intro w hs
      refine WL.p Q0 (Yl.not Q0) ?_
      refine Qm ?_
      refine WL.split (d := 65) Q0 (fun h4 => ?_) (fun h4 => ?_)
      ·
       replace h4 := not_eq_true h4
       replace h4 := of_decide_eq_false h4
       refine WL.skip (d := 65) Q0 Q0 Q0 Q0 ?_
       refine WL.skip (d := 65) Q0 Q0 Q0 Q0 ?_
       refine WL.skip (d := 65) Q0 Q0 Q0 Q0 ?_
       refine WL.p Q0 (Yl.pickT Q0 Q0) ?_
       refine Qm ?_
       refine WL.skip (d := 70) Q0 Q0 Q0 Q0 ?_
       refine WL.skip (d := 70) Q0 Q0 Q0 Q0 ?_
       refine WL.skip (d := 70) Q0 Q0 Q0 Q0 ?_
       refine WL.p Q0 (Yl.pickT Q0 Q0) ?_
       refine WL.next ?_
       refine WC.condT Q0 ?_
       refine WC.seq ?_
       refine Qa ?_
       refine WL.next ?_
       refine WC.ret ?_
       refine At.thenret ?_
       refine fin1' rfl Q0 ?_
       refine RetP.mk hs ?_
       try simp only [hx18, hx19, hx21, hx28] at h1 h2 h3 h4
       all_goals (first | (simp only [hx18, hx19, hx21, hx28]; done) | (exfalso; omega) | simp_all)
      ·
       replace h4 := not_eq_false h4
       replace h4 := of_decide_eq_true h4
       refine WL.run (d := 65) Q0 Q0 ?_
       refine Qm ?_
       refine WL.run (d := 65) Q0 Q0 ?_
       refine Qm ?_
       refine WL.run (d := 65) Q0 Q0 ?_
       refine WL.p Q0 (Yl.nes Q0 Q0) ?_
       refine WL.p Q0 (Yl.pickF Q0 Q0) ?_
       refine Qm ?_
       refine WL.split (d := 70) Q0 (fun h5 => ?_) (fun h5 => ?_)
       ·
        replace h5 := not_eq_true h5
        replace h5 := of_decide_eq_false h5
        refine WL.skip (d := 70) Q0 Q0 Q0 Q0 ?_
        refine WL.skip (d := 70) Q0 Q0 Q0 Q0 ?_
        refine WL.skip (d := 70) Q0 Q0 Q0 Q0 ?_
        refine WL.p Q0 (Yl.pickT Q0 Q0) ?_
        refine WL.next ?_
        refine WC.condT Q0 ?_
        refine WC.seq ?_
        refine Qa ?_
        refine WL.next ?_
        refine WC.ret ?_
        refine At.thenret ?_
        refine fin1' rfl Q0 ?_
        refine RetP.mk hs ?_
        try simp only [hx18, hx19, hx21, hx28] at h1 h2 h3 h4 h5
        all_goals (first | (simp only [hx18, hx19, hx21, hx28]; done) | (exfalso; omega) | simp_all)
       ·
        replace h5 := not_eq_false h5
        replace h5 := of_decide_eq_true h5
        refine WL.run (d := 70) Q0 Q0 ?_
        refine Qm ?_
        refine WL.run (d := 70) Q0 Q0 ?_
        refine Qm ?_
        refine WL.run (d := 70) Q0 Q0 ?_
        refine WL.p Q0 (Yl.nes Q0 Q0) ?_
        refine WL.p Q0 (Yl.pickF Q0 Q0) ?_
        refine WL.next ?_
        refine WC.condS Q0 (fun h6 => ?_) (fun h6 => ?_)
        ·
         replace h6 := not_eq_true h6
         replace h6 := of_decide_eq_false h6
         refine WC.seq ?_
         refine Qa ?_
         refine WL.next ?_
         refine WC.ret ?_
         refine At.thenret ?_
         refine fin1' rfl Q0 ?_
         refine RetP.mk hs ?_
         try simp only [hx18, hx19, hx21, hx28] at h1 h2 h3 h4 h5 h6
         all_goals (first | (simp only [hx18, hx19, hx21, hx28]; done) | (exfalso; omega) | simp_all)
        ·
         replace h6 := not_eq_false h6
         replace h6 := of_decide_eq_true h6
         refine WC.skipn ?_
         refine WC.seq' ?_
         refine WC.anyn mixed hs ?_
         clear hs; intro w hs
         refine WA.pq 0 Q0 hs (fun w hs => Yl.loadAB agg64 Q0 hs Q1 Q0 Q0) ?_
         refine WA.pq 1 Q0 hs (fun w hs => Yl.loadAB agg95 Q0 hs Q1 Q0 Q0) ?_
         refine WA.callq 2 Q0 hs (Yc.func Q0 fn52) (c_laws_toBuilder _ _ (Ph.old h_aB hs) (by first | assumption | omega)) ?_
         have hs0 := hs; clear hs; intro v w hb hR hs; clear hs
         obtain ⟨x29, rfl, hx29, hf29⟩ := hR
         obtain ⟨F29, hs⟩ := hf29.sat hs0 hb; clear hs0 hf29
         refine WA.callp2 (i := 3) hs (fun _ hs => hs.only Q2) Q6 Q0 Q0 (Yc.func Q0 fn55) (c_laws_eqBuilder _ _ _ (hs.okow (x := x19) (F := F19) Q1) (hs.okow (x := x29) (F := F29) Q1)) ?_
         clear hs; intro w hs
         refine WA.pq 4 Q0 hs (fun w hs => Yl.not Q0) ?_
         refine WA.donen Q6 ?_
         refine WC.condS Q0 (fun h7 => ?_) (fun h7 => ?_)
         ·
          replace h7 := not_eq_true h7
          replace h7 := of_decide_eq_false h7
          refine WC.seq ?_
          refine Qa ?_
          refine WL.next ?_
          refine WC.ret ?_
          refine At.thenret ?_
          refine fin1' rfl Q0 ?_
          refine RetP.mk hs ?_
          try simp only [hx18, hx19, hx21, hx28, hx29] at h1 h2 h3 h4 h5 h6 h7
          all_goals (first | (simp only [hx18, hx19, hx21, hx28, hx29]; done) | (exfalso; omega) | simp_all)
         ·
          replace h7 := not_eq_false h7
          replace h7 := of_decide_eq_true h7
          refine WC.skipn ?_
          refine WC.seq' ?_
          refine WC.seq ?_
          refine Qm ?_
          refine Qm ?_
          refine WL.call hs Q0 (Yc.func Q0 fn53) (c_laws_toSheetS _ _ (Ph.old h_aSheets hs) (by first | assumption | omega)) ?_
          have hs0 := hs; clear hs; intro v w hb hR hs; clear hs
          obtain ⟨x30, rfl, hx30, hf30⟩ := hR
          obtain ⟨F30, hs⟩ := hf30.sat hs0 hb; clear hs0 hf30
          have hle30 := Sl.Ok.le (hs.okow (x := x30) (F := F30) Q1)
          refine WL.callp hs Q0 (Yc.func Q0 fn56) (c_laws_eqSheetS _ _ _ (hs.okow (x := x21) (F := F21) Q1) (hs.okow (x := x30) (F := F30) Q1)) ?_
          clear hs; intro w hs
          refine WL.p Q0 (Yl.not Q0) ?_
          refine WL.next ?_
          refine WC.condS Q0 (fun h8 => ?_) (fun h8 => ?_)
          ·
           replace h8 := not_eq_true h8
           replace h8 := of_decide_eq_false h8
           refine WC.seq ?_
           refine Qa ?_
           refine WL.next ?_
           refine WC.ret ?_
           refine At.thenret ?_
           refine fin1' rfl Q0 ?_
           refine RetP.mk hs ?_
           try simp only [hx18, hx19, hx21, hx28, hx29, hx30] at h1 h2 h3 h4 h5 h6 h7 h8
           all_goals (first | (simp only [hx18, hx19, hx21, hx28, hx29, hx30]; done) | (exfalso; omega) | simp_all)
          ·
           replace h8 := not_eq_false h8
           replace h8 := of_decide_eq_true h8
           refine WC.skipn ?_
           refine WC.seq ?_
           refine Qa ?_
           refine WL.next ?_
           refine WC.seq ?_
           refine WL.p Q0 (Yl.loadAB agg64 Q0 hs Q1 Q0 Q0) ?_
           refine Qm ?_
           refine WL.callm (a := x19) (F := F19) hs Q2 Q0 (Yc.func Q0 fn57) (c_laws_markBuilder x19 _ _ F19 (own_of hs Q1) (nodup_of hs Q1) (by first | assumption | omega) (by first | omega | (try simp only [hx18, hx19, hx21, hx28, hx29, hx30]); (have := costoBuilder_le aB.lg; have := (lsz_map : lsz TSheet.size (aSheets.l.map PSheet.lg) = lsz (fun x : PSheet => x.lg.size) aSheets.l); have := costSheets_le (aSheets.l.map PSheet.lg); have := costRun_le aB.lg aX; omega))) ?_
           clear hs; intro a31 F31 w he31 hq31 hs
           refine Qa ?_
           refine WL.next ?_
           refine WC.seq ?_
           refine Qm ?_
           refine Qm ?_
           refine WL.callm (a := x21) (F := F21) hs Q2 Q0 (Yc.func Q0 fn58) (c_laws_markSheetS x21 _ _ F21 (own_of hs Q1) (nodup_of hs Q1) (by first | assumption | omega) (by first | omega | (try simp only [hx18, hx19, hx21, hx28, hx29, hx30]); (have := costoBuilder_le aB.lg; have := (lsz_map : lsz TSheet.size (aSheets.l.map PSheet.lg) = lsz (fun x : PSheet => x.lg.size) aSheets.l); have := costSheets_le (aSheets.l.map PSheet.lg); have := costRun_le aB.lg aX; omega))) ?_
           clear hs; intro a32 F32 w he32 hq32 hs
           refine Qa ?_
           refine WL.next ?_
           refine WC.seq' ?_
           refine WC.seq ?_
           refine Qm ?_
           refine WL.p Q0 (Yl.lss Q0 Q0) ?_
           refine Qm ?_
           refine WL.split (d := 93) Q0 (fun h9 => ?_) (fun h9 => ?_)
           ·
            replace h9 := of_decide_eq_true h9
            refine WL.skip (d := 93) Q0 Q0 Q0 Q0 ?_
            refine WL.skip (d := 93) Q0 Q0 Q0 Q0 ?_
            refine WL.skip (d := 93) Q0 Q0 Q0 Q0 ?_
            refine WL.skip (d := 93) Q0 Q0 Q0 Q0 ?_
            refine WL.p Q0 (Yl.pickT Q0 Q0) ?_
            refine Qm ?_
            refine WL.skip (d := 99) Q0 Q0 Q0 Q0 ?_
            refine WL.skip (d := 99) Q0 Q0 Q0 Q0 ?_
            refine WL.skip (d := 99) Q0 Q0 Q0 Q0 ?_
            refine WL.p Q0 (Yl.pickT Q0 Q0) ?_
            refine Qm ?_
            refine WL.skip (d := 104) Q0 Q0 Q0 Q0 ?_
            refine WL.skip (d := 104) Q0 Q0 Q0 Q0 ?_
            refine WL.skip (d := 104) Q0 Q0 Q0 Q0 ?_
            refine WL.p Q0 (Yl.pickT Q0 Q0) ?_
            refine WL.next ?_
            refine WC.condT Q0 ?_
            refine WC.seq ?_
            refine Qa ?_
            refine WL.next ?_
            refine WC.ret ?_
            refine At.thenret ?_
            refine fin1' rfl Q0 ?_
            refine RetP.mk hs ?_
            try simp only [hx18, hx19, hx21, hx28, hx29, hx30, hq31, hq32] at h1 h2 h3 h4 h5 h6 h7 h8 h9
            all_goals (first | (simp only [hx18, hx19, hx21, hx28, hx29, hx30, hq31, hq32]; done) | (exfalso; omega) | simp_all)
           ·
            replace h9 := of_decide_eq_false h9
            refine WL.run (d := 93) Q0 Q0 ?_
            refine WL.p Q0 (Yl.loadAB agg64 Q0 hs Q1 Q0 Q0) ?_
            refine WL.run (d := 93) Q0 Q0 ?_
            refine WL.p Q0 (Yl.loadAB agg64 Q0 hs Q1 Q0 Q0) ?_
            refine WL.run (d := 93) Q0 Q0 ?_
            refine WL.callp hs Q0 (Yc.func Q0 fn55) (c_laws_eqBuilder _ _ _ ⟨(hs.okow (x := x28) (F := F28) Q1).nodes, (hs.okow (x := x28) (F := F28) Q1).opn⟩ ⟨(hs.okow (x := x18) (F := F18) Q1).nodes, (hs.okow (x := x18) (F := F18) Q1).opn⟩) ?_
            clear hs; intro w hs
            refine WL.run (d := 93) Q0 Q0 ?_
            refine WL.p Q0 (Yl.not Q0) ?_
            refine WL.p Q0 (Yl.pickF Q0 Q0) ?_
            refine Qm ?_
            refine WL.split (d := 99) Q0 (fun h10 => ?_) (fun h10 => ?_)
            ·
             replace h10 := not_eq_true h10
             replace h10 := of_decide_eq_false h10
             refine WL.skip (d := 99) Q0 Q0 Q0 Q0 ?_
             refine WL.skip (d := 99) Q0 Q0 Q0 Q0 ?_
             refine WL.skip (d := 99) Q0 Q0 Q0 Q0 ?_
             refine WL.p Q0 (Yl.pickT Q0 Q0) ?_
             refine Qm ?_
             refine WL.skip (d := 104) Q0 Q0 Q0 Q0 ?_
             refine WL.skip (d := 104) Q0 Q0 Q0 Q0 ?_
             refine WL.skip (d := 104) Q0 Q0 Q0 Q0 ?_
             refine WL.p Q0 (Yl.pickT Q0 Q0) ?_
             refine WL.next ?_
             refine WC.condT Q0 ?_
             refine WC.seq ?_
             refine Qa ?_
             refine WL.next ?_
             refine WC.ret ?_
             refine At.thenret ?_
             refine fin1' rfl Q0 ?_
             refine RetP.mk hs ?_
             try simp only [hx18, hx19, hx21, hx28, hx29, hx30, hq31, hq32] at h1 h2 h3 h4 h5 h6 h7 h8 h9 h10
             all_goals (first | (simp only [hx18, hx19, hx21, hx28, hx29, hx30, hq31, hq32]; done) | (exfalso; omega) | simp_all)
            ·
             replace h10 := not_eq_false h10
             replace h10 := of_decide_eq_true h10
             refine WL.run (d := 99) Q0 Q0 ?_
             refine Qm ?_
             refine WL.run (d := 99) Q0 Q0 ?_
             refine Qm ?_
             refine WL.run (d := 99) Q0 Q0 ?_
             refine WL.p Q0 (Yl.nes Q0 Q0) ?_
             refine WL.p Q0 (Yl.pickF Q0 Q0) ?_
             refine Qm ?_
             refine WL.split (d := 104) Q0 (fun h11 => ?_) (fun h11 => ?_)
             ·
              replace h11 := not_eq_true h11
              replace h11 := of_decide_eq_false h11
              refine WL.skip (d := 104) Q0 Q0 Q0 Q0 ?_
              refine WL.skip (d := 104) Q0 Q0 Q0 Q0 ?_
              refine WL.skip (d := 104) Q0 Q0 Q0 Q0 ?_
              refine WL.p Q0 (Yl.pickT Q0 Q0) ?_
              refine WL.next ?_
              refine WC.condT Q0 ?_
              refine WC.seq ?_
              refine Qa ?_
              refine WL.next ?_
              refine WC.ret ?_
              refine At.thenret ?_
              refine fin1' rfl Q0 ?_
              refine RetP.mk hs ?_
              try simp only [hx18, hx19, hx21, hx28, hx29, hx30, hq31, hq32] at h1 h2 h3 h4 h5 h6 h7 h8 h9 h10 h11
              all_goals (first | (simp only [hx18, hx19, hx21, hx28, hx29, hx30, hq31, hq32]; done) | (exfalso; omega) | simp_all)
             ·
              replace h11 := not_eq_false h11
              replace h11 := of_decide_eq_true h11
              refine WL.run (d := 104) Q0 Q0 ?_
              refine Qm ?_
              refine WL.run (d := 104) Q0 Q0 ?_
              refine Qm ?_
              refine WL.run (d := 104) Q0 Q0 ?_
              refine WL.p Q0 (Yl.nes Q0 Q0) ?_
              refine WL.p Q0 (Yl.pickF Q0 Q0) ?_
              refine WL.next ?_
              refine WC.condS Q0 (fun h12 => ?_) (fun h12 => ?_)
              ·
               replace h12 := not_eq_true h12
               replace h12 := of_decide_eq_false h12
               refine WC.seq ?_
               refine Qa ?_
               refine WL.next ?_
               refine WC.ret ?_
               refine At.thenret ?_
               refine fin1' rfl Q0 ?_
               refine RetP.mk hs ?_
               try simp only [hx18, hx19, hx21, hx28, hx29, hx30, hq31, hq32] at h1 h2 h3 h4 h5 h6 h7 h8 h9 h10 h11 h12
               all_goals (first | (simp only [hx18, hx19, hx21, hx28, hx29, hx30, hq31, hq32]; done) | (exfalso; omega) | simp_all)
              ·
               replace h12 := not_eq_false h12
               replace h12 := of_decide_eq_true h12
               refine WC.skipn ?_
               refine WC.seq ?_
               refine Qa ?_
               refine WL.next ?_
               refine WC.seq ?_
               refine WL.p Q0 (Yl.loadAB agg64 Q0 hs Q1 Q0 Q0) ?_
               refine Qm ?_
               refine WL.callm (a := x28) (F := F28) hs Q2 Q0 (Yc.func Q0 fn57) (c_laws_markBuilder x28 _ _ F28 (own_of hs Q1) (nodup_of hs Q1) (by first | assumption | omega) (by first | omega | (try simp only [hx18, hx19, hx21, hx28, hx29, hx30]); (have := costoBuilder_le aB.lg; have := (lsz_map : lsz TSheet.size (aSheets.l.map PSheet.lg) = lsz (fun x : PSheet => x.lg.size) aSheets.l); have := costSheets_le (aSheets.l.map PSheet.lg); have := costRun_le aB.lg aX; omega))) ?_
               clear hs; intro a33 F33 w he33 hq33 hs
               refine Qa ?_
               refine WL.next ?_
               refine WC.seq ?_
               refine Qa ?_
               refine WL.next ?_
               refine WC.seq ?_
               refine WL.p Q0 (Yl.loadAB agg64 Q0 hs Q1 Q0 Q0) ?_
               refine Qm ?_
               refine WL.callp hs Q0 (Yc.func Q0 fn59) (calls_conv (congrArg (fun z => ([z, _] : List Value).toArray) (show (.agg #[Sl.v a33.nodes, Sl.v a33.opn] : Value) = .agg #[Sl.v x28.nodes, Sl.v x28.opn] from congrArg (fun l => Value.agg l.toArray) he33)) (c_laws_heldBuilder a33 _ x28.lg _ (hs.okow (x := a33) (F := F33) Q1) (by first | assumption | omega) (by first | omega | (try simp only [hx18, hx19, hx21, hx28, hx29, hx30]); (have := costoBuilder_le aB.lg; have := (lsz_map : lsz TSheet.size (aSheets.l.map PSheet.lg) = lsz (fun x : PSheet => x.lg.size) aSheets.l); have := costSheets_le (aSheets.l.map PSheet.lg); have := costRun_le aB.lg aX; omega)) (by exact hq33))) ?_
               clear hs; intro w hs
               refine Qa ?_
               refine WL.next ?_
               refine WC.seq' ?_
               refine WC.seq ?_
               refine Qm ?_
               refine WL.p Q0 (Yl.lss Q0 Q0) ?_
               refine WL.next ?_
               refine WC.condS Q0 (fun h13 => ?_) (fun h13 => ?_)
               ·
                replace h13 := of_decide_eq_true h13
                refine WC.seq ?_
                refine Qa ?_
                refine WL.next ?_
                refine WC.ret ?_
                refine At.thenret ?_
                refine fin1' rfl Q0 ?_
                refine RetP.mk hs ?_
                try simp only [hx18, hx19, hx21, hx28, hx29, hx30, hq31, hq32, hq33] at h1 h2 h3 h4 h5 h6 h7 h8 h9 h10 h11 h12 h13
                all_goals (first | (simp only [hx18, hx19, hx21, hx28, hx29, hx30, hq31, hq32, hq33]; done) | (exfalso; omega) | simp_all)
               ·
                replace h13 := of_decide_eq_false h13
                refine WC.skipn ?_
                refine WC.seq' ?_
                refine WC.seq ?_
                refine Qm ?_
                refine Qm ?_
                refine WL.p Q0 (Yl.nei Q0 Q0) ?_
                refine WL.next ?_
                refine WC.condS Q0 (fun h14 => ?_) (fun h14 => ?_)
                ·
                 replace h14 := not_eq_true h14
                 replace h14 := of_decide_eq_false h14
                 refine WC.seq ?_
                 refine Qa ?_
                 refine WL.next ?_
                 refine WC.ret ?_
                 refine At.thenret ?_
                 refine fin1' rfl Q0 ?_
                 refine RetP.mk hs ?_
                 try simp only [hx18, hx19, hx21, hx28, hx29, hx30, hq31, hq32, hq33] at h1 h2 h3 h4 h5 h6 h7 h8 h9 h10 h11 h12 h13 h14
                 all_goals (first | (simp only [hx18, hx19, hx21, hx28, hx29, hx30, hq31, hq32, hq33]; done) | (exfalso; omega) | simp_all)
                ·
                 replace h14 := not_eq_false h14
                 replace h14 := of_decide_eq_true h14
                 refine WC.skipn ?_
                 refine WC.anynJ (ι := Nat × PBuilder × List Nat) (fun ⟨b, _, _⟩ => [(19, bp b 0), (20, S (if aX.op = 1 then aX.text.map mkB else [])), (21, S (runSaid aB.lg (aSheets.l.map PSheet.lg) aX))]) (fun ⟨b, x, F⟩ => [box b 64 (Ph.enc x), ow x F]) (fun ⟨_, x, _⟩ => x.lg = runOut aB.lg aX) [(0, _), (1, _), (2, _), (3, _), (5, _), (6, _), (7, _), (8, _), (9, _), (10, _), (11, _), (12, _), (13, _), (14, _), (15, _), (16, _), (17, _), (18, _), (22, _), (23, _), (24, _), (25, _), (26, _), (27, _), (28, _), (29, _), (30, _), (31, _), (32, _), (33, _), (34, _), (35, _), (36, _), (48, _), (49, _), (50, _), (51, _), (61, _), (62, _), (63, _), (64, _), (65, _), (66, _), (67, _), (68, _), (69, _), (70, _), (71, _), (72, _), (73, _), (74, _), (75, _), (76, _), (77, _), (78, _), (79, _), (80, _), (81, _), (82, _), (83, _), (84, _), (85, _), (86, _), (87, _), (88, _), (89, _), (90, _), (91, _), (92, _), (93, _), (94, _), (95, _), (96, _), (97, _), (98, _), (99, _), (100, _), (101, _), (102, _), (103, _), (104, _), (105, _), (106, _), (107, _), (108, _), (109, _), (110, _), (111, _), (112, _), (113, _), (114, _), (115, _), (116, _), (117, _), (118, _), (119, _)] mixed hs ⟨by rfl, by rfl, by rfl, by rfl, by rfl, by rfl, by rfl, by rfl, by rfl, by rfl, by rfl, by rfl, by rfl, by rfl, by rfl, by rfl, by rfl, by rfl, by rfl, by rfl, by rfl, by rfl, by rfl, by rfl, by rfl, by rfl, by rfl, by rfl, by rfl, by rfl, by rfl, by rfl, by rfl, by rfl, by rfl, by rfl, by rfl, by rfl, by rfl, by rfl, by rfl, by rfl, by rfl, by rfl, by rfl, by rfl, by rfl, by rfl, by rfl, by rfl, by rfl, by rfl, by rfl, by rfl, by rfl, by rfl, by rfl, by rfl, by rfl, by rfl, by rfl, by rfl, by rfl, by rfl, by rfl, by rfl, by rfl, by rfl, by rfl, by rfl, by rfl, by rfl, by rfl, by rfl, by rfl, by rfl, by rfl, by rfl, by rfl, by rfl, by rfl, by rfl, by rfl, by rfl, by rfl, by rfl, by rfl, by rfl, by rfl, by rfl, by rfl, by rfl, by rfl, by rfl, by rfl, by rfl, trivial⟩ ?_ ?_
                 ·
                  clear hs; intro join w hs
                  refine WA.pq 0 Q0 hs (fun w hs => Yl.loadAB agg95 Q0 hs Q1 Q0 Q0) ?_
                  refine WA.pq 2 Q0 hs (fun w hs => Yl.move Q0) ?_
                  refine WA.pq 4 Q0 hs (fun w hs => Yl.loadAB agg97 Q0 hs Q1 Q0 Q0) ?_
                  refine WA.two (i := 1) (j := 11) Q6 ?_ ?_
                  ·
                   refine WI.callq 1 Q0 hs (Yc.func Q0 fn52) (c_laws_toBuilder _ _ (Ph.old h_aB hs) (by first | assumption | omega)) ?_
                   have hs0 := hs; clear hs; intro v w hb hR hs; clear hs
                   obtain ⟨x34, rfl, hx34, hf34⟩ := hR
                   obtain ⟨F34, hs⟩ := hf34.sat hs0 hb; clear hs0 hf34
                   refine WA.two (i := 3) (j := 11) Q6 ?_ ?_
                   ·
                    refine WI.callq 3 Q0 hs (Yc.func Q0 fn53) (c_laws_toSheetS _ _ (Ph.old h_aSheets hs) (by first | assumption | omega)) ?_
                    have hs0 := hs; clear hs; intro v w hb hR hs; clear hs
                    obtain ⟨x35, rfl, hx35, hf35⟩ := hR
                    obtain ⟨F35, hs⟩ := hf35.sat hs0 hb; clear hs0 hf35
                    have hle35 := Sl.Ok.le (hs.okow (x := x35) (F := F35) Q1)
                    refine WA.two (i := 5) (j := 11) Q6 ?_ ?_
                    ·
                     refine WI.callp2 (i := 5) hs (fun _ hs => hs.only Q2) Q0 Q0 (Yc.func Q0 fn54) (c_laws_toLine _ _) ?_
                     clear hs; intro w hs
                     refine WA.two (i := 6) (j := 11) Q6 ?_ ?_
                     ·
                      refine WI.callq 6 Q0 hs (Yc.func Q0 fn43) (c_impl_RunLine _ _ _ _ (hs.okow (x := x34) (F := F34) Q1) (hs.okow (x := x35) (F := F35) Q1) (Ph.old h_aX hs) (by first | (rw [hx1]; omega) | (rw [hx2]; omega) | (rw [hx3]; omega) | (rw [hx4]; omega) | (rw [hx5]; omega) | (rw [hx6]; omega) | (rw [hx7]; omega) | (rw [hx8]; omega) | (rw [hx9]; omega) | (rw [hx10]; omega) | (rw [hx11]; omega) | (rw [hx12]; omega) | (rw [hx13]; omega) | (rw [hx14]; omega) | (rw [hx15]; omega) | (rw [hx16]; omega) | (rw [hx17]; omega) | (rw [hx18]; omega) | (rw [hx19]; omega) | (rw [hx20]; omega) | (rw [hx21]; omega) | (rw [hx22]; omega) | (rw [hx23]; omega) | (rw [hx24]; omega) | (rw [hx25]; omega) | (rw [hx26]; omega) | (rw [hx27]; omega) | (rw [hx28]; omega) | (rw [hx29]; omega) | (rw [hx30]; omega) | (rw [hx31]; omega) | (rw [hx32]; omega) | (rw [hx33]; omega) | (rw [hx34]; omega) | (rw [hx35]; omega) | (rw [hx36]; omega) | (rw [hx37]; omega) | (rw [hx38]; omega) | (rw [hx39]; omega) | (rw [hx40]; omega) | (rw [hx41]; omega) | (rw [hx42]; omega) | (rw [hx43]; omega) | (rw [hx44]; omega) | (rw [hx45]; omega) | (rw [hx46]; omega) | (rw [hx47]; omega) | (rw [hx48]; omega) | (rw [hx49]; omega) | (rw [hx50]; omega) | (rw [hx51]; omega) | (rw [hx52]; omega) | (rw [hx53]; omega) | (rw [hx54]; omega) | (rw [hx55]; omega) | (rw [hx56]; omega) | (rw [hx57]; omega) | (rw [hx58]; omega) | (rw [hx59]; omega) | (simp only [PPolicy.lg] at *; omega)) (by first | omega | (simp only [TLine.size] at *; omega)) (by first | assumption | exact Sat.tab hs (by assumption))) ?_
                      have hs0 := hs; clear hs; intro v w hb hR hs; clear hs
                      obtain ⟨x36, rfl, hx36, hf36⟩ := hR
                      obtain ⟨F36, hs⟩ := hf36.sat hs0 hb; clear hs0 hf36
                      refine WA.pq 7 Q0 hs (fun w hs => Yl.move Q0) ?_
                      refine WA.pq 8 Q0 hs (fun w hs => Yl.extract Q0 Q0) ?_
                      refine WA.pq 9 Q0 hs (fun w hs => Yl.extract Q0 Q0) ?_
                      refine WA.pq 10 Q0 hs (fun w hs => Yl.extract Q0 Q0) ?_
                      refine WA.alq 11 Q0 hs zt64 ?_
                      clear hs; intro b37 w hs
                      refine WA.stq 12 Q0 hs szf64 ?_
                      clear hs; intro w hs
                      refine WA.pq 13 Q0 hs (fun w hs => Yl.assign Q0) ?_
                      refine WA.pq 14 Q0 hs (fun w hs => Yl.assign Q0) ?_
                      refine WA.donen Q6 ?_
                      exact join ⟨b37, x36, F36⟩ w _ (by simp only [hx18, hx19, hx21, hx28, hx29, hx30, hq31, hq32, hq33, hx34, hx35, hx36]) (hs.only Q2) ⟨by rfl, by rfl, by rfl, by rfl, by rfl, by rfl, by rfl, by rfl, by rfl, by rfl, by rfl, by rfl, by rfl, by rfl, by rfl, by rfl, by rfl, by rfl, by rfl, by rfl, by rfl, by rfl, by rfl, by rfl, by rfl, by rfl, by rfl, by rfl, by rfl, by rfl, by rfl, by rfl, by rfl, by rfl, by rfl, by rfl, by rfl, by rfl, by rfl, by rfl, by rfl, by rfl, by rfl, by rfl, by rfl, by rfl, by rfl, by rfl, by rfl, by rfl, by rfl, by rfl, by rfl, by rfl, by rfl, by rfl, by rfl, by rfl, by rfl, by rfl, by rfl, by rfl, by rfl, by rfl, by rfl, by rfl, by rfl, by rfl, by rfl, by rfl, by rfl, by rfl, by rfl, by rfl, by rfl, by rfl, by rfl, by rfl, by rfl, by rfl, by rfl, by rfl, by rfl, by rfl, by rfl, by rfl, by rfl, by rfl, by rfl, by rfl, by rfl, by rfl, by rfl, by rfl, by rfl, by rfl, trivial⟩ ⟨by rfl, by rfl, by exact congrArg (fun z => some (S z)) (by simp only [hx18, hx19, hx21, hx28, hx29, hx30, hq31, hq32, hq33, hx34, hx35, hx36]), trivial⟩
                     ·
                      refine WI.alq 11 Q0 hs zt64 ?_
                      clear hs; intro b38 w hs
                      refine WA.callq 6 Q0 hs (Yc.func Q0 fn43) (c_impl_RunLine _ _ _ _ (hs.okow (x := x34) (F := F34) Q1) (hs.okow (x := x35) (F := F35) Q1) (Ph.old h_aX hs) (by first | (rw [hx1]; omega) | (rw [hx2]; omega) | (rw [hx3]; omega) | (rw [hx4]; omega) | (rw [hx5]; omega) | (rw [hx6]; omega) | (rw [hx7]; omega) | (rw [hx8]; omega) | (rw [hx9]; omega) | (rw [hx10]; omega) | (rw [hx11]; omega) | (rw [hx12]; omega) | (rw [hx13]; omega) | (rw [hx14]; omega) | (rw [hx15]; omega) | (rw [hx16]; omega) | (rw [hx17]; omega) | (rw [hx18]; omega) | (rw [hx19]; omega) | (rw [hx20]; omega) | (rw [hx21]; omega) | (rw [hx22]; omega) | (rw [hx23]; omega) | (rw [hx24]; omega) | (rw [hx25]; omega) | (rw [hx26]; omega) | (rw [hx27]; omega) | (rw [hx28]; omega) | (rw [hx29]; omega) | (rw [hx30]; omega) | (rw [hx31]; omega) | (rw [hx32]; omega) | (rw [hx33]; omega) | (rw [hx34]; omega) | (rw [hx35]; omega) | (rw [hx36]; omega) | (rw [hx37]; omega) | (rw [hx38]; omega) | (rw [hx39]; omega) | (rw [hx40]; omega) | (rw [hx41]; omega) | (rw [hx42]; omega) | (rw [hx43]; omega) | (rw [hx44]; omega) | (rw [hx45]; omega) | (rw [hx46]; omega) | (rw [hx47]; omega) | (rw [hx48]; omega) | (rw [hx49]; omega) | (rw [hx50]; omega) | (rw [hx51]; omega) | (rw [hx52]; omega) | (rw [hx53]; omega) | (rw [hx54]; omega) | (rw [hx55]; omega) | (rw [hx56]; omega) | (rw [hx57]; omega) | (rw [hx58]; omega) | (rw [hx59]; omega) | (simp only [PPolicy.lg] at *; omega)) (by first | omega | (simp only [TLine.size] at *; omega)) (by first | assumption | exact Sat.tab hs (by assumption))) ?_
                      have hs0 := hs; clear hs; intro v w hb hR hs; clear hs
                      obtain ⟨x39, rfl, hx39, hf39⟩ := hR
                      obtain ⟨F39, hs⟩ := hf39.sat hs0 hb; clear hs0 hf39
                      refine WA.pq 7 Q0 hs (fun w hs => Yl.move Q0) ?_
                      refine WA.pq 8 Q0 hs (fun w hs => Yl.extract Q0 Q0) ?_
                      refine WA.pq 9 Q0 hs (fun w hs => Yl.extract Q0 Q0) ?_
                      refine WA.pq 10 Q0 hs (fun w hs => Yl.extract Q0 Q0) ?_
                      refine WA.stq 12 Q0 hs szf64 ?_
                      clear hs; intro w hs
                      refine WA.pq 13 Q0 hs (fun w hs => Yl.assign Q0) ?_
                      refine WA.pq 14 Q0 hs (fun w hs => Yl.assign Q0) ?_
                      refine WA.donen Q6 ?_
                      exact join ⟨b38, x39, F39⟩ w _ (by simp only [hx18, hx19, hx21, hx28, hx29, hx30, hq31, hq32, hq33, hx34, hx35, hx39]) (hs.only Q2) ⟨by rfl, by rfl, by rfl, by rfl, by rfl, by rfl, by rfl, by rfl, by rfl, by rfl, by rfl, by rfl, by rfl, by rfl, by rfl, by rfl, by rfl, by rfl, by rfl, by rfl, by rfl, by rfl, by rfl, by rfl, by rfl, by rfl, by rfl, by rfl, by rfl, by rfl, by rfl, by rfl, by rfl, by rfl, by rfl, by rfl, by rfl, by rfl, by rfl, by rfl, by rfl, by rfl, by rfl, by rfl, by rfl, by rfl, by rfl, by rfl, by rfl, by rfl, by rfl, by rfl, by rfl, by rfl, by rfl, by rfl, by rfl, by rfl, by rfl, by rfl, by rfl, by rfl, by rfl, by rfl, by rfl, by rfl, by rfl, by rfl, by rfl, by rfl, by rfl, by rfl, by rfl, by rfl, by rfl, by rfl, by rfl, by rfl, by rfl, by rfl, by rfl, by rfl, by rfl, by rfl, by rfl, by rfl, by rfl, by rfl, by rfl, by rfl, by rfl, by rfl, by rfl, by rfl, by rfl, by rfl, trivial⟩ ⟨by rfl, by rfl, by exact congrArg (fun z => some (S z)) (by simp only [hx18, hx19, hx21, hx28, hx29, hx30, hq31, hq32, hq33, hx34, hx35, hx39]), trivial⟩
                    ·
                     refine WI.alq 11 Q0 hs zt64 ?_
                     clear hs; intro b40 w hs
                     refine WA.callp2 (i := 5) hs (fun _ hs => hs.only Q2) Q6 Q0 Q0 (Yc.func Q0 fn54) (c_laws_toLine _ _) ?_
                     clear hs; intro w hs
                     refine WA.callq 6 Q0 hs (Yc.func Q0 fn43) (c_impl_RunLine _ _ _ _ (hs.okow (x := x34) (F := F34) Q1) (hs.okow (x := x35) (F := F35) Q1) (Ph.old h_aX hs) (by first | (rw [hx1]; omega) | (rw [hx2]; omega) | (rw [hx3]; omega) | (rw [hx4]; omega) | (rw [hx5]; omega) | (rw [hx6]; omega) | (rw [hx7]; omega) | (rw [hx8]; omega) | (rw [hx9]; omega) | (rw [hx10]; omega) | (rw [hx11]; omega) | (rw [hx12]; omega) | (rw [hx13]; omega) | (rw [hx14]; omega) | (rw [hx15]; omega) | (rw [hx16]; omega) | (rw [hx17]; omega) | (rw [hx18]; omega) | (rw [hx19]; omega) | (rw [hx20]; omega) | (rw [hx21]; omega) | (rw [hx22]; omega) | (rw [hx23]; omega) | (rw [hx24]; omega) | (rw [hx25]; omega) | (rw [hx26]; omega) | (rw [hx27]; omega) | (rw [hx28]; omega) | (rw [hx29]; omega) | (rw [hx30]; omega) | (rw [hx31]; omega) | (rw [hx32]; omega) | (rw [hx33]; omega) | (rw [hx34]; omega) | (rw [hx35]; omega) | (rw [hx36]; omega) | (rw [hx37]; omega) | (rw [hx38]; omega) | (rw [hx39]; omega) | (rw [hx40]; omega) | (rw [hx41]; omega) | (rw [hx42]; omega) | (rw [hx43]; omega) | (rw [hx44]; omega) | (rw [hx45]; omega) | (rw [hx46]; omega) | (rw [hx47]; omega) | (rw [hx48]; omega) | (rw [hx49]; omega) | (rw [hx50]; omega) | (rw [hx51]; omega) | (rw [hx52]; omega) | (rw [hx53]; omega) | (rw [hx54]; omega) | (rw [hx55]; omega) | (rw [hx56]; omega) | (rw [hx57]; omega) | (rw [hx58]; omega) | (rw [hx59]; omega) | (simp only [PPolicy.lg] at *; omega)) (by first | omega | (simp only [TLine.size] at *; omega)) (by first | assumption | exact Sat.tab hs (by assumption))) ?_
                     have hs0 := hs; clear hs; intro v w hb hR hs; clear hs
                     obtain ⟨x41, rfl, hx41, hf41⟩ := hR
                     obtain ⟨F41, hs⟩ := hf41.sat hs0 hb; clear hs0 hf41
                     refine WA.pq 7 Q0 hs (fun w hs => Yl.move Q0) ?_
                     refine WA.pq 8 Q0 hs (fun w hs => Yl.extract Q0 Q0) ?_
                     refine WA.pq 9 Q0 hs (fun w hs => Yl.extract Q0 Q0) ?_
                     refine WA.pq 10 Q0 hs (fun w hs => Yl.extract Q0 Q0) ?_
                     refine WA.stq 12 Q0 hs szf64 ?_
                     clear hs; intro w hs
                     refine WA.pq 13 Q0 hs (fun w hs => Yl.assign Q0) ?_
                     refine WA.pq 14 Q0 hs (fun w hs => Yl.assign Q0) ?_
                     refine WA.donen Q6 ?_
                     exact join ⟨b40, x41, F41⟩ w _ (by simp only [hx18, hx19, hx21, hx28, hx29, hx30, hq31, hq32, hq33, hx34, hx35, hx41]) (hs.only Q2) ⟨by rfl, by rfl, by rfl, by rfl, by rfl, by rfl, by rfl, by rfl, by rfl, by rfl, by rfl, by rfl, by rfl, by rfl, by rfl, by rfl, by rfl, by rfl, by rfl, by rfl, by rfl, by rfl, by rfl, by rfl, by rfl, by rfl, by rfl, by rfl, by rfl, by rfl, by rfl, by rfl, by rfl, by rfl, by rfl, by rfl, by rfl, by rfl, by rfl, by rfl, by rfl, by rfl, by rfl, by rfl, by rfl, by rfl, by rfl, by rfl, by rfl, by rfl, by rfl, by rfl, by rfl, by rfl, by rfl, by rfl, by rfl, by rfl, by rfl, by rfl, by rfl, by rfl, by rfl, by rfl, by rfl, by rfl, by rfl, by rfl, by rfl, by rfl, by rfl, by rfl, by rfl, by rfl, by rfl, by rfl, by rfl, by rfl, by rfl, by rfl, by rfl, by rfl, by rfl, by rfl, by rfl, by rfl, by rfl, by rfl, by rfl, by rfl, by rfl, by rfl, by rfl, by rfl, by rfl, by rfl, trivial⟩ ⟨by rfl, by rfl, by exact congrArg (fun z => some (S z)) (by simp only [hx18, hx19, hx21, hx28, hx29, hx30, hq31, hq32, hq33, hx34, hx35, hx41]), trivial⟩
                   ·
                    refine WI.alq 11 Q0 hs zt64 ?_
                    clear hs; intro b42 w hs
                    refine WA.callq 3 Q0 hs (Yc.func Q0 fn53) (c_laws_toSheetS _ _ (Ph.old h_aSheets hs) (by first | assumption | omega)) ?_
                    have hs0 := hs; clear hs; intro v w hb hR hs; clear hs
                    obtain ⟨x43, rfl, hx43, hf43⟩ := hR
                    obtain ⟨F43, hs⟩ := hf43.sat hs0 hb; clear hs0 hf43
                    have hle43 := Sl.Ok.le (hs.okow (x := x43) (F := F43) Q1)
                    refine WA.callp2 (i := 5) hs (fun _ hs => hs.only Q2) Q6 Q0 Q0 (Yc.func Q0 fn54) (c_laws_toLine _ _) ?_
                    clear hs; intro w hs
                    refine WA.callq 6 Q0 hs (Yc.func Q0 fn43) (c_impl_RunLine _ _ _ _ (hs.okow (x := x34) (F := F34) Q1) (hs.okow (x := x43) (F := F43) Q1) (Ph.old h_aX hs) (by first | (rw [hx1]; omega) | (rw [hx2]; omega) | (rw [hx3]; omega) | (rw [hx4]; omega) | (rw [hx5]; omega) | (rw [hx6]; omega) | (rw [hx7]; omega) | (rw [hx8]; omega) | (rw [hx9]; omega) | (rw [hx10]; omega) | (rw [hx11]; omega) | (rw [hx12]; omega) | (rw [hx13]; omega) | (rw [hx14]; omega) | (rw [hx15]; omega) | (rw [hx16]; omega) | (rw [hx17]; omega) | (rw [hx18]; omega) | (rw [hx19]; omega) | (rw [hx20]; omega) | (rw [hx21]; omega) | (rw [hx22]; omega) | (rw [hx23]; omega) | (rw [hx24]; omega) | (rw [hx25]; omega) | (rw [hx26]; omega) | (rw [hx27]; omega) | (rw [hx28]; omega) | (rw [hx29]; omega) | (rw [hx30]; omega) | (rw [hx31]; omega) | (rw [hx32]; omega) | (rw [hx33]; omega) | (rw [hx34]; omega) | (rw [hx35]; omega) | (rw [hx36]; omega) | (rw [hx37]; omega) | (rw [hx38]; omega) | (rw [hx39]; omega) | (rw [hx40]; omega) | (rw [hx41]; omega) | (rw [hx42]; omega) | (rw [hx43]; omega) | (rw [hx44]; omega) | (rw [hx45]; omega) | (rw [hx46]; omega) | (rw [hx47]; omega) | (rw [hx48]; omega) | (rw [hx49]; omega) | (rw [hx50]; omega) | (rw [hx51]; omega) | (rw [hx52]; omega) | (rw [hx53]; omega) | (rw [hx54]; omega) | (rw [hx55]; omega) | (rw [hx56]; omega) | (rw [hx57]; omega) | (rw [hx58]; omega) | (rw [hx59]; omega) | (simp only [PPolicy.lg] at *; omega)) (by first | omega | (simp only [TLine.size] at *; omega)) (by first | assumption | exact Sat.tab hs (by assumption))) ?_
                    have hs0 := hs; clear hs; intro v w hb hR hs; clear hs
                    obtain ⟨x44, rfl, hx44, hf44⟩ := hR
                    obtain ⟨F44, hs⟩ := hf44.sat hs0 hb; clear hs0 hf44
                    refine WA.pq 7 Q0 hs (fun w hs => Yl.move Q0) ?_
                    refine WA.pq 8 Q0 hs (fun w hs => Yl.extract Q0 Q0) ?_
                    refine WA.pq 9 Q0 hs (fun w hs => Yl.extract Q0 Q0) ?_
                    refine WA.pq 10 Q0 hs (fun w hs => Yl.extract Q0 Q0) ?_
                    refine WA.stq 12 Q0 hs szf64 ?_
                    clear hs; intro w hs
                    refine WA.pq 13 Q0 hs (fun w hs => Yl.assign Q0) ?_
                    refine WA.pq 14 Q0 hs (fun w hs => Yl.assign Q0) ?_
                    refine WA.donen Q6 ?_
                    exact join ⟨b42, x44, F44⟩ w _ (by simp only [hx18, hx19, hx21, hx28, hx29, hx30, hq31, hq32, hq33, hx34, hx43, hx44]) (hs.only Q2) ⟨by rfl, by rfl, by rfl, by rfl, by rfl, by rfl, by rfl, by rfl, by rfl, by rfl, by rfl, by rfl, by rfl, by rfl, by rfl, by rfl, by rfl, by rfl, by rfl, by rfl, by rfl, by rfl, by rfl, by rfl, by rfl, by rfl, by rfl, by rfl, by rfl, by rfl, by rfl, by rfl, by rfl, by rfl, by rfl, by rfl, by rfl, by rfl, by rfl, by rfl, by rfl, by rfl, by rfl, by rfl, by rfl, by rfl, by rfl, by rfl, by rfl, by rfl, by rfl, by rfl, by rfl, by rfl, by rfl, by rfl, by rfl, by rfl, by rfl, by rfl, by rfl, by rfl, by rfl, by rfl, by rfl, by rfl, by rfl, by rfl, by rfl, by rfl, by rfl, by rfl, by rfl, by rfl, by rfl, by rfl, by rfl, by rfl, by rfl, by rfl, by rfl, by rfl, by rfl, by rfl, by rfl, by rfl, by rfl, by rfl, by rfl, by rfl, by rfl, by rfl, by rfl, by rfl, by rfl, by rfl, trivial⟩ ⟨by rfl, by rfl, by exact congrArg (fun z => some (S z)) (by simp only [hx18, hx19, hx21, hx28, hx29, hx30, hq31, hq32, hq33, hx34, hx43, hx44]), trivial⟩
                  ·
                   refine WI.alq 11 Q0 hs zt64 ?_
                   clear hs; intro b45 w hs
                   refine WA.callq 1 Q0 hs (Yc.func Q0 fn52) (c_laws_toBuilder _ _ (Ph.old h_aB hs) (by first | assumption | omega)) ?_
                   have hs0 := hs; clear hs; intro v w hb hR hs; clear hs
                   obtain ⟨x46, rfl, hx46, hf46⟩ := hR
                   obtain ⟨F46, hs⟩ := hf46.sat hs0 hb; clear hs0 hf46
                   refine WA.callq 3 Q0 hs (Yc.func Q0 fn53) (c_laws_toSheetS _ _ (Ph.old h_aSheets hs) (by first | assumption | omega)) ?_
                   have hs0 := hs; clear hs; intro v w hb hR hs; clear hs
                   obtain ⟨x47, rfl, hx47, hf47⟩ := hR
                   obtain ⟨F47, hs⟩ := hf47.sat hs0 hb; clear hs0 hf47
                   have hle47 := Sl.Ok.le (hs.okow (x := x47) (F := F47) Q1)
                   refine WA.callp2 (i := 5) hs (fun _ hs => hs.only Q2) Q6 Q0 Q0 (Yc.func Q0 fn54) (c_laws_toLine _ _) ?_
                   clear hs; intro w hs
                   refine WA.callq 6 Q0 hs (Yc.func Q0 fn43) (c_impl_RunLine _ _ _ _ (hs.okow (x := x46) (F := F46) Q1) (hs.okow (x := x47) (F := F47) Q1) (Ph.old h_aX hs) (by first | (rw [hx1]; omega) | (rw [hx2]; omega) | (rw [hx3]; omega) | (rw [hx4]; omega) | (rw [hx5]; omega) | (rw [hx6]; omega) | (rw [hx7]; omega) | (rw [hx8]; omega) | (rw [hx9]; omega) | (rw [hx10]; omega) | (rw [hx11]; omega) | (rw [hx12]; omega) | (rw [hx13]; omega) | (rw [hx14]; omega) | (rw [hx15]; omega) | (rw [hx16]; omega) | (rw [hx17]; omega) | (rw [hx18]; omega) | (rw [hx19]; omega) | (rw [hx20]; omega) | (rw [hx21]; omega) | (rw [hx22]; omega) | (rw [hx23]; omega) | (rw [hx24]; omega) | (rw [hx25]; omega) | (rw [hx26]; omega) | (rw [hx27]; omega) | (rw [hx28]; omega) | (rw [hx29]; omega) | (rw [hx30]; omega) | (rw [hx31]; omega) | (rw [hx32]; omega) | (rw [hx33]; omega) | (rw [hx34]; omega) | (rw [hx35]; omega) | (rw [hx36]; omega) | (rw [hx37]; omega) | (rw [hx38]; omega) | (rw [hx39]; omega) | (rw [hx40]; omega) | (rw [hx41]; omega) | (rw [hx42]; omega) | (rw [hx43]; omega) | (rw [hx44]; omega) | (rw [hx45]; omega) | (rw [hx46]; omega) | (rw [hx47]; omega) | (rw [hx48]; omega) | (rw [hx49]; omega) | (rw [hx50]; omega) | (rw [hx51]; omega) | (rw [hx52]; omega) | (rw [hx53]; omega) | (rw [hx54]; omega) | (rw [hx55]; omega) | (rw [hx56]; omega) | (rw [hx57]; omega) | (rw [hx58]; omega) | (rw [hx59]; omega) | (simp only [PPolicy.lg] at *; omega)) (by first | omega | (simp only [TLine.size] at *; omega)) (by first | assumption | exact Sat.tab hs (by assumption))) ?_
                   have hs0 := hs; clear hs; intro v w hb hR hs; clear hs
                   obtain ⟨x48, rfl, hx48, hf48⟩ := hR
                   obtain ⟨F48, hs⟩ := hf48.sat hs0 hb; clear hs0 hf48
                   refine WA.pq 7 Q0 hs (fun w hs => Yl.move Q0) ?_
                   refine WA.pq 8 Q0 hs (fun w hs => Yl.extract Q0 Q0) ?_
                   refine WA.pq 9 Q0 hs (fun w hs => Yl.extract Q0 Q0) ?_
                   refine WA.pq 10 Q0 hs (fun w hs => Yl.extract Q0 Q0) ?_
                   refine WA.stq 12 Q0 hs szf64 ?_
                   clear hs; intro w hs
                   refine WA.pq 13 Q0 hs (fun w hs => Yl.assign Q0) ?_
                   refine WA.pq 14 Q0 hs (fun w hs => Yl.assign Q0) ?_
                   refine WA.donen Q6 ?_
                   exact join ⟨b45, x48, F48⟩ w _ (by simp only [hx18, hx19, hx21, hx28, hx29, hx30, hq31, hq32, hq33, hx46, hx47, hx48]) (hs.only Q2) ⟨by rfl, by rfl, by rfl, by rfl, by rfl, by rfl, by rfl, by rfl, by rfl, by rfl, by rfl, by rfl, by rfl, by rfl, by rfl, by rfl, by rfl, by rfl, by rfl, by rfl, by rfl, by rfl, by rfl, by rfl, by rfl, by rfl, by rfl, by rfl, by rfl, by rfl, by rfl, by rfl, by rfl, by rfl, by rfl, by rfl, by rfl, by rfl, by rfl, by rfl, by rfl, by rfl, by rfl, by rfl, by rfl, by rfl, by rfl, by rfl, by rfl, by rfl, by rfl, by rfl, by rfl, by rfl, by rfl, by rfl, by rfl, by rfl, by rfl, by rfl, by rfl, by rfl, by rfl, by rfl, by rfl, by rfl, by rfl, by rfl, by rfl, by rfl, by rfl, by rfl, by rfl, by rfl, by rfl, by rfl, by rfl, by rfl, by rfl, by rfl, by rfl, by rfl, by rfl, by rfl, by rfl, by rfl, by rfl, by rfl, by rfl, by rfl, by rfl, by rfl, by rfl, by rfl, by rfl, by rfl, trivial⟩ ⟨by rfl, by rfl, by exact congrArg (fun z => some (S z)) (by simp only [hx18, hx19, hx21, hx28, hx29, hx30, hq31, hq32, hq33, hx46, hx47, hx48]), trivial⟩
                 ·
                  clear hs; rintro ⟨b49, x49, F49⟩ w hx49 hs
                  simp only [List.cons_append, List.nil_append] at hs
                  replace hx49 : x49.lg = runOut aB.lg aX := hx49
                  refine WC.seq' ?_
                  refine WC.seq ?_
                  refine WL.p Q0 (Yl.loadAB agg64 Q0 hs Q1 Q0 Q0) ?_
                  refine WL.p Q0 (Yl.loadAB agg64 Q0 hs Q1 Q0 Q0) ?_
                  refine WL.callp hs Q0 (Yc.func Q0 fn55) (c_laws_eqBuilder _ _ _ ⟨(hs.okow (x := x49) (F := F49) Q1).nodes, (hs.okow (x := x49) (F := F49) Q1).opn⟩ ⟨(hs.okow (x := x18) (F := F18) Q1).nodes, (hs.okow (x := x18) (F := F18) Q1).opn⟩) ?_
                  clear hs; intro w hs
                  refine WL.p Q0 (Yl.not Q0) ?_
                  refine Qm ?_
                  refine WL.split (d := 135) Q0 (fun h15 => ?_) (fun h15 => ?_)
                  ·
                   replace h15 := not_eq_true h15
                   replace h15 := of_decide_eq_false h15
                   refine WL.skip (d := 135) Q0 Q0 Q0 Q0 ?_
                   refine WL.skip (d := 135) Q0 Q0 Q0 Q0 ?_
                   refine WL.skip (d := 135) Q0 Q0 Q0 Q0 ?_
                   refine WL.p Q0 (Yl.pickT Q0 Q0) ?_
                   refine Qm ?_
                   refine WL.skip (d := 140) Q0 Q0 Q0 Q0 ?_
                   refine WL.skip (d := 140) Q0 Q0 Q0 Q0 ?_
                   refine WL.skip (d := 140) Q0 Q0 Q0 Q0 ?_
                   refine WL.p Q0 (Yl.pickT Q0 Q0) ?_
                   refine WL.next ?_
                   refine WC.condT Q0 ?_
                   refine WC.seq ?_
                   refine Qa ?_
                   refine WL.next ?_
                   refine WC.ret ?_
                   refine At.thenret ?_
                   refine fin1' rfl Q0 ?_
                   refine RetP.mk hs ?_
                   try simp only [hx18, hx19, hx21, hx28, hx29, hx30, hq31, hq32, hq33, hx49] at h1 h2 h3 h4 h5 h6 h7 h8 h9 h10 h11 h12 h13 h14 h15
                   all_goals (first | (simp only [hx18, hx19, hx21, hx28, hx29, hx30, hq31, hq32, hq33, hx49]; done) | (exfalso; omega) | simp_all)
                  ·
                   replace h15 := not_eq_false h15
                   replace h15 := of_decide_eq_true h15
                   refine WL.run (d := 135) Q0 Q0 ?_
                   refine Qm ?_
                   refine WL.run (d := 135) Q0 Q0 ?_
                   refine Qm ?_
                   refine WL.run (d := 135) Q0 Q0 ?_
                   refine WL.p Q0 (Yl.nes Q0 Q0) ?_
                   refine WL.p Q0 (Yl.pickF Q0 Q0) ?_
                   refine Qm ?_
                   refine WL.split (d := 140) Q0 (fun h16 => ?_) (fun h16 => ?_)
                   ·
                    replace h16 := not_eq_true h16
                    replace h16 := of_decide_eq_false h16
                    refine WL.skip (d := 140) Q0 Q0 Q0 Q0 ?_
                    refine WL.skip (d := 140) Q0 Q0 Q0 Q0 ?_
                    refine WL.skip (d := 140) Q0 Q0 Q0 Q0 ?_
                    refine WL.p Q0 (Yl.pickT Q0 Q0) ?_
                    refine WL.next ?_
                    refine WC.condT Q0 ?_
                    refine WC.seq ?_
                    refine Qa ?_
                    refine WL.next ?_
                    refine WC.ret ?_
                    refine At.thenret ?_
                    refine fin1' rfl Q0 ?_
                    refine RetP.mk hs ?_
                    try simp only [hx18, hx19, hx21, hx28, hx29, hx30, hq31, hq32, hq33, hx49] at h1 h2 h3 h4 h5 h6 h7 h8 h9 h10 h11 h12 h13 h14 h15 h16
                    all_goals (first | (simp only [hx18, hx19, hx21, hx28, hx29, hx30, hq31, hq32, hq33, hx49]; done) | (exfalso; omega) | simp_all)
                   ·
                    replace h16 := not_eq_false h16
                    replace h16 := of_decide_eq_true h16
                    refine WL.run (d := 140) Q0 Q0 ?_
                    refine Qm ?_
                    refine WL.run (d := 140) Q0 Q0 ?_
                    refine Qm ?_
                    refine WL.run (d := 140) Q0 Q0 ?_
                    refine WL.p Q0 (Yl.nes Q0 Q0) ?_
                    refine WL.p Q0 (Yl.pickF Q0 Q0) ?_
                    refine WL.next ?_
                    refine WC.condS Q0 (fun h17 => ?_) (fun h17 => ?_)
                    ·
                     replace h17 := not_eq_true h17
                     replace h17 := of_decide_eq_false h17
                     refine WC.seq ?_
                     refine Qa ?_
                     refine WL.next ?_
                     refine WC.ret ?_
                     refine At.thenret ?_
                     refine fin1' rfl Q0 ?_
                     refine RetP.mk hs ?_
                     try simp only [hx18, hx19, hx21, hx28, hx29, hx30, hq31, hq32, hq33, hx49] at h1 h2 h3 h4 h5 h6 h7 h8 h9 h10 h11 h12 h13 h14 h15 h16 h17
                     all_goals (first | (simp only [hx18, hx19, hx21, hx28, hx29, hx30, hq31, hq32, hq33, hx49]; done) | (exfalso; omega) | simp_all)
                    ·
                     replace h17 := not_eq_false h17
                     replace h17 := of_decide_eq_true h17
                     refine WC.skipn ?_
                     refine WC.seq ?_
                     refine Qa ?_
                     refine WL.next ?_
                     refine WC.seq ?_
                     refine WL.p Q0 (Yl.loadAB agg64 Q0 hs Q1 Q0 Q0) ?_
                     refine Qm ?_
                     refine WL.callp hs Q0 (Yc.func Q0 fn59) (calls_conv (congrArg (fun z => ([z, _] : List Value).toArray) (show (.agg #[Sl.v a33.nodes, Sl.v a33.opn] : Value) = .agg #[Sl.v x28.nodes, Sl.v x28.opn] from congrArg (fun l => Value.agg l.toArray) he33)) (c_laws_heldBuilder a33 _ x28.lg _ (hs.okow (x := a33) (F := F33) Q1) (by first | assumption | omega) (by first | omega | (try simp only [hx18, hx19, hx21, hx28, hx29, hx30, hx49]); (have := costoBuilder_le aB.lg; have := (lsz_map : lsz TSheet.size (aSheets.l.map PSheet.lg) = lsz (fun x : PSheet => x.lg.size) aSheets.l); have := costSheets_le (aSheets.l.map PSheet.lg); have := costRun_le aB.lg aX; omega)) (by exact hq33))) ?_
                     clear hs; intro w hs
                     refine Qa ?_
                     refine WL.next ?_
                     refine WC.seq' ?_
                     refine WC.seq ?_
                     refine Qm ?_
                     refine WL.p Q0 (Yl.lss Q0 Q0) ?_
                     refine WL.next ?_
                     refine WC.condS Q0 (fun h18 => ?_) (fun h18 => ?_)
                     ·
                      replace h18 := of_decide_eq_true h18
                      refine WC.seq ?_
                      refine Qa ?_
                      refine WL.next ?_
                      refine WC.ret ?_
                      refine At.thenret ?_
                      refine fin1' rfl Q0 ?_
                      refine RetP.mk hs ?_
                      try simp only [hx18, hx19, hx21, hx28, hx29, hx30, hq31, hq32, hq33, hx49] at h1 h2 h3 h4 h5 h6 h7 h8 h9 h10 h11 h12 h13 h14 h15 h16 h17 h18
                      all_goals (first | (simp only [hx18, hx19, hx21, hx28, hx29, hx30, hq31, hq32, hq33, hx49]; done) | (exfalso; omega) | simp_all)
                     ·
                      replace h18 := of_decide_eq_false h18
                      refine WC.skipn ?_
                      refine WC.seq' ?_
                      refine WC.seq ?_
                      refine Qm ?_
                      refine Qm ?_
                      refine WL.p Q0 (Yl.nei Q0 Q0) ?_
                      refine WL.next ?_
                      refine WC.condS Q0 (fun h19 => ?_) (fun h19 => ?_)
                      ·
                       replace h19 := not_eq_true h19
                       replace h19 := of_decide_eq_false h19
                       refine WC.seq ?_
                       refine Qa ?_
                       refine WL.next ?_
                       refine WC.ret ?_
                       refine At.thenret ?_
                       refine fin1' rfl Q0 ?_
                       refine RetP.mk hs ?_
                       try simp only [hx18, hx19, hx21, hx28, hx29, hx30, hq31, hq32, hq33, hx49] at h1 h2 h3 h4 h5 h6 h7 h8 h9 h10 h11 h12 h13 h14 h15 h16 h17 h18 h19
                       all_goals (first | (simp only [hx18, hx19, hx21, hx28, hx29, hx30, hq31, hq32, hq33, hx49]; done) | (exfalso; omega) | simp_all)
                      ·
                       replace h19 := not_eq_false h19
                       replace h19 := of_decide_eq_true h19
                       refine WC.skipn ?_
                       refine WC.seq ?_
                       refine Qa ?_
                       refine WL.next ?_
                       refine WC.ret ?_
                       refine fin1' rfl Q0 ?_
                       refine RetP.mk hs ?_
                       rfl

end Go.Sw
