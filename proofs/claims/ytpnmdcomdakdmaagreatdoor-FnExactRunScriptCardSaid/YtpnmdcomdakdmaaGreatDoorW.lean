/- Walks: what each function of the program returns, for every input. Printed by gen.py. -/
import Derived.Test.YtpnmdcomdakdmaaGreatDoorW0
set_option linter.all false
namespace Go.Sw
open Go Go.RowKit Go.Proofs

theorem c_spec_CountName (b : PBuilder) (name : Str) (w : World) (h_b : Ph.ok w b)  : Calls Tryz.prog 141 [.agg #[Sl.v b.nodes, Sl.v b.opn], S name].toArray w (RetP w (I (countN name b.nodes.l : Int))) := by
 have hw := h_b.nodes.lt
 refine enterN 25 Tryz.func141 rfl rfl rfl ?_
 have hs := Sat.start w
 refine WC.seq ?_
 refine WL.r Q0 (Yr.box hs Q0 Q0) ?_
 clear hs; rintro _ w ⟨b1, rfl, hb, hs⟩; clear hb
 refine Qa ?_
 refine WL.next ?_
 refine WC.seq ?_
 refine Qa ?_
 refine WL.next ?_
 refine WC.seq' ?_
 refine WC.seq ?_
 refine Qa ?_
 refine WL.next ?_
 refine WC.block ?_
 refine WC.loopC (ι := Nat × Nat) (fun ⟨k, m⟩ => b.nodes.l.length - k) (fun ⟨k, m⟩ => [(6, I (k : Int)), (5, I (m : Int))]) (fun _ => []) (fun ⟨k, m⟩ => m ≤ k ∧ countN name b.nodes.l = m + countN name (b.nodes.l.drop k)) [(0, _), (1, _), (2, _), (4, _)] (0, 0) (hs) ⟨by rfl, by rfl, by rfl, by rfl, trivial⟩ ⟨by rfl, by rfl, trivial⟩ ?_ ?_
 ·
  exact ⟨Nat.le_refl _, by simp⟩
 clear hs; rintro ⟨k, m⟩ w ⟨hJ1, hJ2⟩ hs
 simp only [List.nil_append] at hs
 refine WC.seq' ?_
 refine WC.seq ?_
 refine Qm ?_
 refine WL.p Q0 (Yl.fieldAddr fa64_0 Q0) ?_
 refine WL.p Q0 (Yl.loadB sca61 Q0 hs Q1 Q0) ?_
 refine WL.p Q0 (Yl.len_sl slu61 Q0) ?_
 refine WL.p Q0 (Yl.lss Q0 Q0) ?_
 refine WL.next ?_
 refine WC.condS Q0 (fun h1 => ?_) (fun h1 => ?_)
 ·
  replace h1 := of_decide_eq_true h1
  obtain ⟨d, hd⟩ := exists_get (l := b.nodes.l) (k := k) Q7
  rw [drop_cons hd] at hJ2
  refine WC.skipn ?_
  refine WC.seq' ?_
  refine WC.block ?_
  refine WC.seq ?_
  refine WL.p Q0 (Yl.fieldAddr fa64_0 Q0) ?_
  refine WL.p Q0 (Yl.loadB sca61 Q0 hs Q1 Q0) ?_
  refine Qm ?_
  refine WL.p Q0 (Yl.indexAddr slt61 Q0 Q0 (Ph.old h_b.nodes hs) Q0 (hd)) ?_
  refine WL.p Q0 (Yl.fieldAddr fa165_0 Q0) ?_
  refine WL.p Q0 (Yl.loadC sca9 Q0 (Sl.Ok.at_ (Ph.old h_b.nodes hs) (by assumption)).2 Q0) ?_
  refine Qm ?_
  refine WL.p Q0 (Yl.eqs Q0 Q0) ?_
  refine WL.next ?_
  refine WC.condS Q0 (fun h2 => ?_) (fun h2 => ?_)
  ·
   replace h2 := of_decide_eq_true h2
   refine WC.region ?_
   refine Qm ?_
   refine WL.p Q0 (Yl.add Q0 Q0 Q7) ?_
   refine Qa ?_
   refine WL.nil ?_
   refine At.blocknormal ?_
   refine At.then_ ?_
   refine WC.region ?_
   refine Qm ?_
   refine WL.p Q0 (Yl.add Q0 Q0 Q7) ?_
   refine Qa ?_
   refine WL.nil ?_
   refine At.roundC (k + 1, m + 1) (hs.only Q2) ⟨by rfl, by rfl, by rfl, by rfl, trivial⟩ ⟨by rfl, by rfl, trivial⟩ ?_ ?_
   ·
    show b.nodes.l.length - (k + 1) < b.nodes.l.length - k
    omega
   ·
    rw [countN_yes (by assumption)] at hJ2
    exact ⟨by omega, by omega⟩
  ·
   replace h2 := of_decide_eq_false h2
   refine WC.skip ?_
   refine At.blocknormal ?_
   refine At.then_ ?_
   refine WC.region ?_
   refine Qm ?_
   refine WL.p Q0 (Yl.add Q0 Q0 Q7) ?_
   refine Qa ?_
   refine WL.nil ?_
   refine At.roundC (k + 1, m) (hs.only Q2) ⟨by rfl, by rfl, by rfl, by rfl, trivial⟩ ⟨by rfl, by rfl, trivial⟩ ?_ ?_
   ·
    show b.nodes.l.length - (k + 1) < b.nodes.l.length - k
    omega
   ·
    rw [countN_no (by assumption)] at hJ2
    exact ⟨by omega, by omega⟩
 ·
  replace h1 := of_decide_eq_false h1
  rw [drop_out (l := b.nodes.l) Q7] at hJ2
  refine WC.exit ?_
  refine At.thenexit ?_
  refine At.thenexit ?_
  refine At.blockexit ?_
  refine At.then_ ?_
  refine WC.seq ?_
  refine Qm ?_
  refine Qa ?_
  refine WL.next ?_
  refine WC.ret ?_
  refine fin1' rfl Q0 ?_
  refine RetP.mk hs ?_
  rw [hJ2]; simp [countN]

theorem c_spec_RunLine (b : PBuilder) (sheets : (Sl PSheet)) (y : TLine) (w : World) (h_b : Ph.ok w b) (h_sheets : Ph.ok w sheets) (h_y : Ph.ok w y) (hb : b.lg.size ≤ 1048576) (hbt : y.text.length ≤ 1048576) : Calls Tryz.prog 48 [.agg #[Sl.v b.nodes, Sl.v b.opn], Sl.v sheets, .agg #[I y.op, S y.text]].toArray w (Ret w (fun v w' => ∃ x : PBuilder, v = .tuple #[.agg (Ph.enc x).toArray, S (if y.op = 1 then y.text.map mkB else []), S (runSaid b.lg (sheets.l.map PSheet.lg) y)] ∧ x.lg = runOut b.lg y ∧ Fresh w x w')) := by
 have hi1 := itoa_len (countN_wf y.text h_b.nodes.lt)
 have hi2 := itoa_len (colorOf_wf (name := y.text) (fun s hs9 x hx9 => (Sl.Ok.elems (h_sheets.elems s hs9).rules x hx9).color))
 refine enterN 73 Tryz.func48 rfl rfl rfl ?_
 have hs := Sat.start w
 refine WC.seq ?_
 refine WL.r Q0 (Yr.box hs Q0 Q0) ?_
 clear hs; rintro _ w ⟨b1, rfl, hb, hs⟩; clear hb
 refine WL.r Q0 (Yr.box hs Q0 Q0) ?_
 clear hs; rintro _ w ⟨b2, rfl, hb, hs⟩; clear hb
 refine WL.r Q0 (Yr.alloc hs zt64) ?_
 clear hs; rintro _ w ⟨b3, rfl, hb, hs⟩; clear hb
 refine Qa ?_
 refine Qa ?_
 refine WL.next ?_
 refine WC.seq ?_
 refine WL.p Q0 (Yl.loadAB agg64 Q0 hs Q1 Q0 Q0) ?_
 refine WL.call hs Q0 (Yc.func Q0 fn139) (c_spec_l6Copy _ _ (Ph.old h_b hs) (by exact hb)) ?_
 have hs0 := hs; clear hs; intro v w hb hR hs; clear hs
 obtain ⟨x4, rfl, hx4, hf4⟩ := hR
 obtain ⟨F4, hs⟩ := hf4.sat hs0 hb; clear hs0 hf4
 refine WL.r Q0 (Yr.alloc hs zt64) ?_
 clear hs; rintro _ w ⟨b5, rfl, hb, hs⟩; clear hb
 refine WL.s (Yr.storeB hs Q0 Q0 Q0 Q5 Q3 Q0 (by exact szf64)) ?_
 clear hs; rintro _ w hs
 refine WL.next ?_
 refine WC.seq' ?_
 refine WC.seq ?_
 refine WL.p Q0 (Yl.fieldAddr fa87_0 Q0) ?_
 refine WL.p Q0 (Yl.loadB sca3 Q0 hs Q1 Q0) ?_
 refine WL.next ?_
 refine WC.block ?_
 refine WC.seq ?_
 refine WL.p Q0 (Yl.eqi Q0 Q0) ?_
 refine Qa ?_
 refine WL.next ?_
 refine WC.condS Q0 (fun h1 => ?_) (fun h1 => ?_)
 ·
  replace h1 := of_decide_eq_true h1
  refine WC.anyn2 (c := box b3 _ _) mixed hs (by repeat (first | exact Ext.here | apply Ext.there)) ?_
  clear hs; intro w hs
  refine WA.p (i := 0) Q0 Q6 Q6 Q6 Q0 (hs.only Q2) (fun w hs => Yl.loadAB agg64 Q0 hs Q1 Q0 Q0) ?_
  refine WA.p (i := 1) Q0 Q6 Q6 Q6 Q0 (hs.only Q2) (fun w hs => Yl.fieldAddr fa87_1 Q0) ?_
  refine WA.p (i := 2) Q0 Q6 Q6 Q6 Q0 (hs.only Q2) (fun w hs => Yl.loadB sca9 Q0 hs Q1 Q0) ?_
  refine WA.callp2 (i := 3) hs (fun _ hs => hs.only Q2) Q6 Q0 Q0 (Yc.func Q0 fn140) (c_spec_MarkupOf _ _ (by exact hbt)) ?_
  clear hs; intro w hs
  refine WA.s (i := 4) Q6 Q0 (Yr.storeB hs Q0 Q0 Q0 Q5 Q3 Q0 (by exact szf64)) (by rintro _ w hs; exact hs.only Q2) ?_
  clear hs; rintro _ w hs
  refine WA.p (i := 5) Q0 Q6 Q6 Q6 Q0 (hs.only Q2) (fun w hs => Yl.assign Q0) ?_
  refine WA.p (i := 6) Q0 Q6 Q6 Q6 Q0 (hs.only Q2) (fun w hs => Yl.assign Q0) ?_
  refine WA.donen Q6 ?_
  refine WC.ret ?_
  refine At.blockret ?_
  refine At.thenret ?_
  refine fin3c rfl agg64 Q0 Q0 Q0 hs Q1 Q0 ?_
  refine Ret.mk hs ?_
  refine ⟨x4, ?_, ?_, hs.fresh Q1⟩
  · simp_all [runSaid, countN_lg, colorOf_lg, PBuilder.lg] <;> rfl
  · first
    | (simp_all [runOut, inR_true, inR_false]; done)
    | (rw [runOut, if_neg (by rintro ⟨a1, a2, a3⟩; simp only [inR_true, inR_false, PBuilder.lg, List.length_map] at *; first | omega | simp_all)]; assumption)
 ·
  replace h1 := of_decide_eq_false h1
  refine WC.seq ?_
  refine WL.p Q0 (Yl.eqi Q0 Q0) ?_
  refine Qa ?_
  refine WL.next ?_
  refine WC.condS Q0 (fun h2 => ?_) (fun h2 => ?_)
  ·
   replace h2 := of_decide_eq_true h2
   refine WC.seq' ?_
   refine WC.seq ?_
   refine WL.p Q0 (Yl.fieldAddr fa64_0 Q0) ?_
   refine WL.p Q0 (Yl.loadB sca61 Q0 hs Q1 Q0) ?_
   refine WL.p Q0 (Yl.len_sl slu61 Q0) ?_
   refine WL.callp hs Q0 (Yc.func Q0 fn95) (c_spec_l1In _ _ _ _) ?_
   clear hs; intro w hs
   refine Qm ?_
   refine WL.split (d := 26) Q0 (fun h3 => ?_) (fun h3 => ?_)
   ·
    replace h3 := inR_true.1 h3
    refine WL.run (d := 26) Q0 Q0 ?_
    refine WL.p Q0 (Yl.fieldAddr fa87_1 Q0) ?_
    refine WL.run (d := 26) Q0 Q0 ?_
    refine WL.p Q0 (Yl.loadB sca9 Q0 hs Q1 Q0) ?_
    refine WL.run (d := 26) Q0 Q0 ?_
    refine WL.callp hs Q0 (Yc.func Q0 fn110) (c_spec_IsName _ _ (Ph.old h_y.text hs)) ?_
    clear hs; intro w hs
    refine WL.p Q0 (Yl.pickT Q0 Q0) ?_
    refine WL.next ?_
    refine WC.condS Q0 (fun h4 => ?_) (fun h4 => ?_)
    ·
     refine WC.region ?_
     refine WL.p Q0 (Yl.fieldAddr fa64_0 Q0) ?_
     refine WL.p Q0 (Yl.loadB sca61 Q0 hs Q1 Q0) ?_
     refine WL.p Q0 (Yl.fieldAddr fa87_1 Q0) ?_
     refine WL.p Q0 (Yl.loadB sca9 Q0 hs Q1 Q0) ?_
     refine WL.p Q0 (Yl.build bt165 Q0 Q4) ?_
     refine WL.r Q0 (Yr.buildSlice hs sll61 Q0 Q0 Q0 Q4 Q0) ?_
     clear hs; rintro _ w ⟨b6, rfl, hb, hs⟩; clear hb
     obtain ⟨K7_0, K7_1, hfl7, hs⟩ := PBuilder.split (hs.sel (D := [ow x4 F4]) Q2)
     try simp only [List.cons_append, List.nil_append] at hs
     replace hs := Sat.nilsl (α := TAttr) hs
     replace hs := PNode.join (⟨y.text, ([] : Str), 0, ⟨[], none, 0⟩⟩ : PNode) (hs.sel (D := [ow (⟨[], none, 0⟩ : (Sl TAttr)) []]) Q2) (by first | exact (Ph.old h_y.text hs) | (refine Ph.old ?_ hs; assumption)) (by first | exact (show WfS [] from Nat.zero_le _) | (refine Ph.old ?_ hs; assumption)) (by first | exact (show WfI 0 from ⟨by omega, by omega⟩) | (refine Ph.old ?_ hs; assumption))
     try simp only [List.cons_append, List.nil_append] at hs
     refine WL.r Q0 (Yr.appendE (s := x4.nodes) (F := K7_0) (u := (⟨y.text, ([] : Str), 0, ⟨[], none, 0⟩⟩ : PNode)) (G := []) hs elt61 Q2 Q0 Q0 (hs.box_cells Q1) (by have e9 := congrArg (fun t : TBuilder => t.nodes.length) hx4; simp only [PBuilder.lg, List.length_map] at e9; simp; unfold maxLen; omega) (by have e9 := congrArg (fun t : TBuilder => t.nodes.length) hx4; simp only [PBuilder.lg, List.length_map] at e9; simp; omega)) ?_
     clear hs; rintro _ w ⟨s8, F8, rfl, hl8, hs⟩
     refine WL.p Q0 (Yl.fieldAddr fa64_0 Q0) ?_
     refine WL.s (Yr.storeB hs Q0 Q0 Q0 Q5 Q3 Q0 (by exact szf61)) ?_
     clear hs; rintro _ w hs
     refine WL.nil ?_
     refine At.then_ ?_
     refine WC.seq ?_
     refine WL.p Q0 (Yl.loadAB agg64 Q0 hs Q1 Q0 Q0) ?_
     refine WL.s (Yr.storeB hs Q0 Q0 Q0 Q5 Q3 Q0 (by exact szf64)) ?_
     clear hs; rintro _ w hs
     refine Qa ?_
     refine Qa ?_
     refine WL.next ?_
     refine WC.ret ?_
     refine At.blockret ?_
     refine At.thenret ?_
     refine fin3c rfl agg64 Q0 Q0 Q0 hs Q1 Q0 ?_
     refine Ret.mk hs ?_
     refine ⟨(⟨s8, x4.opn⟩ : PBuilder), ?_, ?_, (PBuilder.join (⟨s8, x4.opn⟩ : PBuilder) (hs.only (D := [ow s8 F8, ow x4.opn K7_1]) Q2)).fresh List.mem_cons_self⟩
     · simp_all [runSaid, countN_lg, colorOf_lg, PBuilder.lg] <;> rfl
     · simp_all [runOut, PBuilder.lg, PNode.lg, inR_true]
    ·
     refine WC.skipn ?_
     refine WC.seq ?_
     refine WL.p Q0 (Yl.loadAB agg64 Q0 hs Q1 Q0 Q0) ?_
     refine WL.s (Yr.storeB hs Q0 Q0 Q0 Q5 Q3 Q0 (by exact szf64)) ?_
     clear hs; rintro _ w hs
     refine Qa ?_
     refine Qa ?_
     refine WL.next ?_
     refine WC.ret ?_
     refine At.blockret ?_
     refine At.thenret ?_
     refine fin3c rfl agg64 Q0 Q0 Q0 hs Q1 Q0 ?_
     refine Ret.mk hs ?_
     refine ⟨x4, ?_, ?_, hs.fresh Q1⟩
     · simp_all [runSaid, countN_lg, colorOf_lg, PBuilder.lg] <;> rfl
     · first
       | (simp_all [runOut, inR_true, inR_false]; done)
       | (rw [runOut, if_neg (by rintro ⟨a1, a2, a3⟩; simp only [inR_true, inR_false, PBuilder.lg, List.length_map] at *; first | omega | simp_all)]; assumption)
   ·
    replace h3 := inR_false.1 h3
    refine WL.skip (d := 26) Q0 Q0 Q0 Q0 ?_
    refine WL.skip (d := 26) Q0 Q0 Q0 Q0 ?_
    refine WL.skip (d := 26) Q0 Q0 Q0 Q0 ?_
    refine WL.p Q0 (Yl.pickF Q0 Q0) ?_
    refine WL.next ?_
    refine WC.condF Q0 ?_
    refine WC.skipn ?_
    refine WC.seq ?_
    refine WL.p Q0 (Yl.loadAB agg64 Q0 hs Q1 Q0 Q0) ?_
    refine WL.s (Yr.storeB hs Q0 Q0 Q0 Q5 Q3 Q0 (by exact szf64)) ?_
    clear hs; rintro _ w hs
    refine Qa ?_
    refine Qa ?_
    refine WL.next ?_
    refine WC.ret ?_
    refine At.blockret ?_
    refine At.thenret ?_
    refine fin3c rfl agg64 Q0 Q0 Q0 hs Q1 Q0 ?_
    refine Ret.mk hs ?_
    refine ⟨x4, ?_, ?_, hs.fresh Q1⟩
    · simp_all [runSaid, countN_lg, colorOf_lg, PBuilder.lg] <;> rfl
    · first
      | (simp_all [runOut, inR_true, inR_false]; done)
      | (rw [runOut, if_neg (by rintro ⟨a1, a2, a3⟩; simp only [inR_true, inR_false, PBuilder.lg, List.length_map] at *; first | omega | simp_all)]; assumption)
  ·
   replace h2 := of_decide_eq_false h2
   refine WC.seq ?_
   refine WL.p Q0 (Yl.eqi Q0 Q0) ?_
   refine Qa ?_
   refine WL.next ?_
   refine WC.condS Q0 (fun h3 => ?_) (fun h3 => ?_)
   ·
    replace h3 := of_decide_eq_true h3
    refine WC.anyn2 (c := box b3 _ _) mixed hs (by repeat (first | exact Ext.here | apply Ext.there)) ?_
    clear hs; intro w hs
    refine WA.p (i := 0) Q0 Q6 Q6 Q6 Q0 (hs.only Q2) (fun w hs => Yl.loadAB agg64 Q0 hs Q1 Q0 Q0) ?_
    refine WA.p (i := 1) Q0 Q6 Q6 Q6 Q0 (hs.only Q2) (fun w hs => Yl.fieldAddr fa87_1 Q0) ?_
    refine WA.p (i := 2) Q0 Q6 Q6 Q6 Q0 (hs.only Q2) (fun w hs => Yl.loadB sca9 Q0 hs Q1 Q0) ?_
    refine WA.p (i := 3) Q0 Q6 Q6 Q6 Q0 (hs.only Q2) (fun w hs => Yl.cat Q0 Q0 (by simp only [List.length_append, List.length_cons, List.length_nil] at *; omega)) ?_
    refine WA.p (i := 4) Q0 Q6 Q6 Q6 Q0 (hs.only Q2) (fun w hs => Yl.cat Q0 Q0 (by simp only [List.length_append, List.length_cons, List.length_nil] at *; omega)) ?_
    refine WA.p (i := 5) Q0 Q6 Q6 Q6 Q0 (hs.only Q2) (fun w hs => Yl.loadAB agg64 Q0 hs Q1 Q0 Q0) ?_
    refine WA.p (i := 6) Q0 Q6 Q6 Q6 Q0 (hs.only Q2) (fun w hs => Yl.fieldAddr fa87_1 Q0) ?_
    refine WA.p (i := 7) Q0 Q6 Q6 Q6 Q0 (hs.only Q2) (fun w hs => Yl.loadB sca9 Q0 hs Q1 Q0) ?_
    refine WA.callp2 (i := 8) hs (fun _ hs => hs.only Q2) Q6 Q0 Q0 (Yc.func Q0 fn141) (c_spec_CountName _ _ _ (Ph.old h_b hs)) ?_
    clear hs; intro w hs
    refine WA.callp2 (i := 9) hs (fun _ hs => hs.only Q2) Q6 Q0 Q0 (Yc.func Q0 fn68) (c_spec_FormatInt _ _ (countN_wf _ h_b.nodes.lt)) ?_
    clear hs; intro w hs
    refine WA.p (i := 10) Q0 Q6 Q6 Q6 Q0 (hs.only Q2) (fun w hs => Yl.cat Q0 Q0 (by simp only [List.length_append, List.length_cons, List.length_nil] at *; omega)) ?_
    refine WA.s (i := 11) Q6 Q0 (Yr.storeB hs Q0 Q0 Q0 Q5 Q3 Q0 (by exact szf64)) (by rintro _ w hs; exact hs.only Q2) ?_
    clear hs; rintro _ w hs
    refine WA.p (i := 12) Q0 Q6 Q6 Q6 Q0 (hs.only Q2) (fun w hs => Yl.assign Q0) ?_
    refine WA.p (i := 13) Q0 Q6 Q6 Q6 Q0 (hs.only Q2) (fun w hs => Yl.assign Q0) ?_
    refine WA.donen Q6 ?_
    refine WC.ret ?_
    refine At.blockret ?_
    refine At.thenret ?_
    refine fin3c rfl agg64 Q0 Q0 Q0 hs Q1 Q0 ?_
    refine Ret.mk hs ?_
    refine ⟨x4, ?_, ?_, hs.fresh Q1⟩
    · simp_all [runSaid, countN_lg, colorOf_lg, PBuilder.lg] <;> rfl
    · first
      | (simp_all [runOut, inR_true, inR_false]; done)
      | (rw [runOut, if_neg (by rintro ⟨a1, a2, a3⟩; simp only [inR_true, inR_false, PBuilder.lg, List.length_map] at *; first | omega | simp_all)]; assumption)
   ·
    replace h3 := of_decide_eq_false h3
    refine WC.seq ?_
    refine WL.p Q0 (Yl.eqi Q0 Q0) ?_
    refine Qa ?_
    refine WL.next ?_
    refine WC.condS Q0 (fun h4 => ?_) (fun h4 => ?_)
    ·
     replace h4 := of_decide_eq_true h4
     refine WC.anyn2 (c := box b3 _ _) mixed hs (by repeat (first | exact Ext.here | apply Ext.there)) ?_
     clear hs; intro w hs
     refine WA.p (i := 0) Q0 Q6 Q6 Q6 Q0 (hs.only Q2) (fun w hs => Yl.loadAB agg64 Q0 hs Q1 Q0 Q0) ?_
     refine WA.p (i := 1) Q0 Q6 Q6 Q6 Q0 (hs.only Q2) (fun w hs => Yl.fieldAddr fa87_1 Q0) ?_
     refine WA.p (i := 2) Q0 Q6 Q6 Q6 Q0 (hs.only Q2) (fun w hs => Yl.loadB sca9 Q0 hs Q1 Q0) ?_
     refine WA.p (i := 3) Q0 Q6 Q6 Q6 Q0 (hs.only Q2) (fun w hs => Yl.cat Q0 Q0 (by simp only [List.length_append, List.length_cons, List.length_nil] at *; omega)) ?_
     refine WA.p (i := 4) Q0 Q6 Q6 Q6 Q0 (hs.only Q2) (fun w hs => Yl.cat Q0 Q0 (by simp only [List.length_append, List.length_cons, List.length_nil] at *; omega)) ?_
     refine WA.p (i := 5) Q0 Q6 Q6 Q6 Q0 (hs.only Q2) (fun w hs => Yl.move Q0) ?_
     refine WA.p (i := 6) Q0 Q6 Q6 Q6 Q0 (hs.only Q2) (fun w hs => Yl.fieldAddr fa87_1 Q0) ?_
     refine WA.p (i := 7) Q0 Q6 Q6 Q6 Q0 (hs.only Q2) (fun w hs => Yl.loadB sca9 Q0 hs Q1 Q0) ?_
     refine WA.callp2 (i := 8) hs (fun _ hs => hs.only Q2) Q6 Q0 Q0 (Yc.func Q0 fn119) (c_spec_ColorOf _ _ _ (Ph.old h_sheets hs)) ?_
     clear hs; intro w hs
     refine WA.callp2 (i := 9) hs (fun _ hs => hs.only Q2) Q6 Q0 Q0 (Yc.func Q0 fn68) (c_spec_FormatInt _ _ (colorOf_wf (fun s hs9 x hx9 => (Sl.Ok.elems (h_sheets.elems s hs9).rules x hx9).color))) ?_
     clear hs; intro w hs
     refine WA.p (i := 10) Q0 Q6 Q6 Q6 Q0 (hs.only Q2) (fun w hs => Yl.cat Q0 Q0 (by simp only [List.length_append, List.length_cons, List.length_nil] at *; omega)) ?_
     refine WA.s (i := 11) Q6 Q0 (Yr.storeB hs Q0 Q0 Q0 Q5 Q3 Q0 (by exact szf64)) (by rintro _ w hs; exact hs.only Q2) ?_
     clear hs; rintro _ w hs
     refine WA.p (i := 12) Q0 Q6 Q6 Q6 Q0 (hs.only Q2) (fun w hs => Yl.assign Q0) ?_
     refine WA.p (i := 13) Q0 Q6 Q6 Q6 Q0 (hs.only Q2) (fun w hs => Yl.assign Q0) ?_
     refine WA.donen Q6 ?_
     refine WC.ret ?_
     refine At.blockret ?_
     refine At.thenret ?_
     refine fin3c rfl agg64 Q0 Q0 Q0 hs Q1 Q0 ?_
     refine Ret.mk hs ?_
     refine ⟨x4, ?_, ?_, hs.fresh Q1⟩
     · simp_all [runSaid, countN_lg, colorOf_lg, PBuilder.lg] <;> rfl
     · first
       | (simp_all [runOut, inR_true, inR_false]; done)
       | (rw [runOut, if_neg (by rintro ⟨a1, a2, a3⟩; simp only [inR_true, inR_false, PBuilder.lg, List.length_map] at *; first | omega | simp_all)]; assumption)
    ·
     replace h4 := of_decide_eq_false h4
     refine WC.seq ?_
     refine WL.p Q0 (Yl.eqi Q0 Q0) ?_
     refine Qa ?_
     refine WL.next ?_
     refine WC.condS Q0 (fun h5 => ?_) (fun h5 => ?_)
     ·
      replace h5 := of_decide_eq_true h5
      refine WC.anyn2 (c := box b3 _ _) mixed hs (by repeat (first | exact Ext.here | apply Ext.there)) ?_
      clear hs; intro w hs
      refine WA.p (i := 0) Q0 Q6 Q6 Q6 Q0 (hs.only Q2) (fun w hs => Yl.loadAB agg64 Q0 hs Q1 Q0 Q0) ?_
      refine WA.p (i := 1) Q0 Q6 Q6 Q6 Q0 (hs.only Q2) (fun w hs => Yl.fieldAddr fa87_1 Q0) ?_
      refine WA.p (i := 2) Q0 Q6 Q6 Q6 Q0 (hs.only Q2) (fun w hs => Yl.loadB sca9 Q0 hs Q1 Q0) ?_
      refine WA.p (i := 3) Q0 Q6 Q6 Q6 Q0 (hs.only Q2) (fun w hs => Yl.cat Q0 Q0 (by simp only [List.length_append, List.length_cons, List.length_nil] at *; omega)) ?_
      refine WA.s (i := 4) Q6 Q0 (Yr.storeB hs Q0 Q0 Q0 Q5 Q3 Q0 (by exact szf64)) (by rintro _ w hs; exact hs.only Q2) ?_
      clear hs; rintro _ w hs
      refine WA.p (i := 5) Q0 Q6 Q6 Q6 Q0 (hs.only Q2) (fun w hs => Yl.assign Q0) ?_
      refine WA.p (i := 6) Q0 Q6 Q6 Q6 Q0 (hs.only Q2) (fun w hs => Yl.assign Q0) ?_
      refine WA.donen Q6 ?_
      refine WC.ret ?_
      refine At.blockret ?_
      refine At.thenret ?_
      refine fin3c rfl agg64 Q0 Q0 Q0 hs Q1 Q0 ?_
      refine Ret.mk hs ?_
      refine ⟨x4, ?_, ?_, hs.fresh Q1⟩
      · simp_all [runSaid, countN_lg, colorOf_lg, PBuilder.lg] <;> rfl
      · first
        | (simp_all [runOut, inR_true, inR_false]; done)
        | (rw [runOut, if_neg (by rintro ⟨a1, a2, a3⟩; simp only [inR_true, inR_false, PBuilder.lg, List.length_map] at *; first | omega | simp_all)]; assumption)
     ·
      replace h5 := of_decide_eq_false h5
      refine WC.skip ?_
      refine At.blocknormal ?_
      refine At.then_ ?_
      refine WC.seq ?_
      refine WL.p Q0 (Yl.loadAB agg64 Q0 hs Q1 Q0 Q0) ?_
      refine WL.s (Yr.storeB hs Q0 Q0 Q0 Q5 Q3 Q0 (by exact szf64)) ?_
      clear hs; rintro _ w hs
      refine Qa ?_
      refine Qa ?_
      refine WL.next ?_
      refine WC.ret ?_
      refine fin3c rfl agg64 Q0 Q0 Q0 hs Q1 Q0 ?_
      refine Ret.mk hs ?_
      refine ⟨x4, ?_, ?_, hs.fresh Q1⟩
      · simp_all [runSaid, countN_lg, colorOf_lg, PBuilder.lg] <;> rfl
      · first
        | (simp_all [runOut, inR_true, inR_false]; done)
        | (rw [runOut, if_neg (by rintro ⟨a1, a2, a3⟩; simp only [inR_true, inR_false, PBuilder.lg, List.length_map] at *; first | omega | simp_all)]; assumption)

set_option maxRecDepth 20000 in
theorem c_spec_RunScript (b : PBuilder) (sheets : (Sl PSheet)) (l : (Sl TLine)) (w : World) (h_b : Ph.ok w b) (h_sheets : Ph.ok w sheets) (h_l : Ph.ok w l) (hbb : b.lg.size + lsz TLine.size l.l ≤ 1048576) : Calls Tryz.prog 76 [.agg #[Sl.v b.nodes, Sl.v b.opn], Sl.v sheets, Sl.v l].toArray w (Ret w (fun v w' => ∃ (xb : PBuilder) (xw : Str) (xl : Sl Str), v = .tuple #[.agg (Ph.enc xb).toArray, S xw, xl.v] ∧ (Ph.ok w' xw) ∧ (xb.lg = (runAll mkB (sheets.l.map PSheet.lg) b.lg l.l).1 ∧ xw = (runAll mkB (sheets.l.map PSheet.lg) b.lg l.l).2.1 ∧ xl.l = (runAll mkB (sheets.l.map PSheet.lg) b.lg l.l).2.2) ∧ Fresh2 w xb xl w')) := by
 have hw := h_l.lt
 have hll : l.l.length ≤ 1048576 := by simp only [lsz] at hbb; omega
 refine enterN 49 Tryz.func76 rfl rfl rfl ?_
 have hs := Sat.start w
 refine WC.seq ?_
 refine WL.r Q0 (Yr.box hs Q0 Q0) ?_
 clear hs; rintro _ w ⟨b1, rfl, hb, hs⟩; clear hb
 refine WL.r Q0 (Yr.alloc hs zt64) ?_
 clear hs; rintro _ w ⟨b2, rfl, hb, hs⟩; clear hb
 refine Qa ?_
 refine Qa ?_
 refine WL.next ?_
 refine WC.seq ?_
 refine WL.p Q0 (Yl.loadAB agg64 Q0 hs Q1 Q0 Q0) ?_
 refine WL.call hs Q0 (Yc.func Q0 fn139) (c_spec_l6Copy _ _ (Ph.old h_b hs) Q7) ?_
 have hs0 := hs; clear hs; intro v w hb hR hs; clear hs
 obtain ⟨x3, rfl, hx3, hf3⟩ := hR
 obtain ⟨F3, hs⟩ := hf3.sat hs0 hb; clear hs0 hf3
 refine WL.r Q0 (Yr.alloc hs zt64) ?_
 clear hs; rintro _ w ⟨b4, rfl, hb, hs⟩; clear hb
 refine WL.s (Yr.storeB hs Q0 Q0 Q0 Q5 Q3 Q0 (by exact szf64)) ?_
 clear hs; rintro _ w hs
 refine WL.next ?_
 refine WC.seq ?_
 refine Qa ?_
 refine WL.next ?_
 refine WC.seq ?_
 refine WL.r Q0 (Yr.buildSlice hs sll34 Q0 Q0 Q0 Q4 Q0) ?_
 clear hs; rintro _ w ⟨b5, rfl, hb, hs⟩; clear hb
 refine Qa ?_
 refine WL.next ?_
 refine WC.seq' ?_
 refine WC.seq ?_
 refine Qa ?_
 refine WL.next ?_
 refine WC.block ?_
 replace hs := Sat.boxow (l := ([] : List Str)) (hs.sel (D := [box b5 _ _]) Q2) rfl rfl (by simp) (ownL_mk_flat (by simp))
 try simp only [List.cons_append, List.nil_append] at hs
 refine WC.loopC (ι := Nat × PBuilder × List Nat × Str × Sl Str × List Nat) (fun ⟨k, q, F, W, s, G⟩ => l.l.length - k) (fun ⟨k, q, F, W, s, G⟩ => [(12, I (k : Int)), (10, S W), (11, s.v)]) (fun ⟨k, q, F, W, s, G⟩ => [box b4 64 [Sl.v q.nodes, Sl.v q.opn], ow q F, ow s G]) (fun ⟨k, q, F, W, s, G⟩ => k ≤ l.l.length ∧ q.lg.size ≤ b.lg.size + lsz TLine.size (l.l.take k) ∧ W.length ≤ lsz TLine.size (l.l.take k) ∧ s.l.length ≤ k ∧ runAll mkB (sheets.l.map PSheet.lg) b.lg l.l = ((runAll mkB (sheets.l.map PSheet.lg) q.lg (l.l.drop k)).1, W ++ (runAll mkB (sheets.l.map PSheet.lg) q.lg (l.l.drop k)).2.1, s.l ++ (runAll mkB (sheets.l.map PSheet.lg) q.lg (l.l.drop k)).2.2)) [(0, _), (1, _), (2, _), (3, _), (6, _), (7, _), (8, _), (9, _)] (0, x3, F3, [], ⟨[], some ⟨b5, 0, none⟩, 0⟩, [b5]) (hs.sel (D := [box b4 64 _, ow x3 F3, ow (⟨[], some ⟨b5, 0, none⟩, 0⟩ : Sl Str) [b5]]) Q2) ⟨by rfl, by rfl, by rfl, by rfl, by rfl, by rfl, by rfl, by rfl, trivial⟩ ⟨by rfl, by rfl, by rfl, trivial⟩ ?_ ?_
 ·
  refine ⟨Nat.zero_le _, by rw [hx3]; exact Nat.le_add_right _ _, Nat.zero_le _, Nat.zero_le _, ?_⟩
  rw [hx3]; rfl
 clear hs; rintro ⟨k, q, F, W, s, G⟩ w ⟨hJ1, hJ2, hJ3, hJ4, hJ5⟩ hs
 simp only [List.cons_append, List.nil_append] at hs
 refine WC.seq' ?_
 refine WC.seq ?_
 refine Qm ?_
 refine Qm ?_
 refine WL.p Q0 (Yl.len_sl slu79 Q0) ?_
 refine WL.p Q0 (Yl.lss Q0 Q0) ?_
 refine WL.next ?_
 refine WC.condS Q0 (fun h1 => ?_) (fun h1 => ?_)
 ·
  replace h1 := of_decide_eq_true h1
  obtain ⟨d, hd⟩ := exists_get (l := l.l) (k := k) Q7
  refine WC.skipn ?_
  refine WC.seq' ?_
  refine WC.block ?_
  refine WC.anyn mixed hs ?_
  clear hs; intro w hs
  refine WA.p (i := 0) Q0 Q6 Q6 Q6 Q0 (hs.only Q2) (fun w hs => Yl.loadAB agg64 Q0 hs Q1 Q0 Q0) ?_
  refine WA.p (i := 1) Q0 Q6 Q6 Q6 Q0 (hs.only Q2) (fun w hs => Yl.move Q0) ?_
  refine WA.p (i := 2) Q0 Q6 Q6 Q6 Q0 (hs.only Q2) (fun w hs => Yl.move Q0) ?_
  refine WA.p (i := 3) Q0 Q6 Q6 Q6 Q0 (hs.only Q2) (fun w hs => Yl.move Q0) ?_
  refine WA.p (i := 4) Q0 Q6 Q6 Q6 Q0 (hs.only Q2) (fun w hs => Yl.indexAddr slt79 Q0 Q0 (Ph.old h_l hs) Q0 (hd)) ?_
  refine WA.p (i := 5) Q0 Q6 Q6 Q6 Q0 (hs.only Q2) (fun w hs => Yl.loadA agg87 Q0 (Sl.Ok.at_ (Ph.old h_l hs) (by assumption)).2 Q0) ?_
  refine WA.two (i := 6) (j := 11) Q6 ?_ ?_
  ·
   refine WI.call2 (i := 6) hs (fun _ hs => hs.only Q2) Q0 Q0 (Yc.func Q0 fn48) (c_spec_RunLine _ _ _ _ ⟨(hs.okow (x := q) (F := F) Q1).nodes, (hs.okow (x := q) (F := F) Q1).opn⟩ (Ph.old h_sheets hs) (Ph.old (Sl.Ok.elem h_l hd) hs) (by have := lsz_take TLine.size l.l k; omega) (by have h9 := lsum_le (f := TLine.size) (List.mem_of_getElem? hd); simp only [lsz, TLine.size] at h9 hbb ⊢; omega)) ?_
   have hs0 := hs; clear hs; intro v w hb hR hs; clear hs
   obtain ⟨x6, rfl, hx6, hf6⟩ := hR
   obtain ⟨F6, hs⟩ := hf6.sat hs0 hb; clear hs0 hf6
   refine WA.p (i := 7) Q0 Q6 Q6 Q6 Q0 (hs.only Q2) (fun w hs => Yl.move Q0) ?_
   refine WA.p (i := 8) Q0 Q6 Q6 Q6 Q0 (hs.only Q2) (fun w hs => Yl.extract Q0 Q0) ?_
   refine WA.p (i := 9) Q0 Q6 Q6 Q6 Q0 (hs.only Q2) (fun w hs => Yl.extract Q0 Q0) ?_
   refine WA.p (i := 10) Q0 Q6 Q6 Q6 Q0 (hs.only Q2) (fun w hs => Yl.extract Q0 Q0) ?_
   refine WA.r (i := 11) Q6 Q0 Q0 (Yr.alloc hs zt64) (by rintro _ w ⟨b7, rfl, hb, hs⟩; exact hs.only Q2) ?_
   clear hs; rintro _ w ⟨b7, rfl, hb, hs⟩; clear hb
   refine WA.s (i := 12) Q6 Q0 (Yr.storeB hs Q0 Q0 Q0 Q5 Q3 Q0 (by exact szf64)) (by rintro _ w hs; exact hs.only Q2) ?_
   clear hs; rintro _ w hs
   refine WA.p (i := 13) Q0 Q6 Q6 Q6 Q0 (hs.only Q2) (fun w hs => Yl.assign Q0) ?_
   refine WA.p (i := 14) Q0 Q6 Q6 Q6 Q0 (hs.only Q2) (fun w hs => Yl.assign Q0) ?_
   refine WA.donen Q6 ?_
   refine WC.seq ?_
   refine WL.p Q0 (Yl.loadAB agg64 Q0 hs Q1 Q0 Q0) ?_
   refine WL.s (Yr.storeB hs Q0 Q0 Q0 Q5 Q3 Q0 (by exact szf64)) ?_
   clear hs; rintro _ w hs
   refine WL.next ?_
   refine WC.seq ?_
   refine Qm ?_
   refine Qm ?_
   refine WL.p Q0 (Yl.cat Q0 Q0 (by exact wrote_len (lsz_take TLine.size l.l k) hJ3 hbb (List.mem_of_getElem? hd))) ?_
   refine Qa ?_
   refine WL.next ?_
   refine WC.seq ?_
   refine Qm ?_
   refine WL.p Q0 (Yl.nes Q0 Q0) ?_
   refine WL.next ?_
   refine WC.condS Q0 (fun h2 => ?_) (fun h2 => ?_)
   ·
    replace h2 := not_eq_true h2
    replace h2 := of_decide_eq_false h2
    refine WC.region ?_
    refine Qm ?_
    refine Qm ?_
    refine WL.r Q0 (Yr.buildSlice hs sll34 Q0 Q0 Q0 Q4 Q0) ?_
    clear hs; rintro _ w ⟨b8, rfl, hb, hs⟩; clear hb
    refine WL.r Q0 (Yr.append (s := s) (F := G) hs elt34 Q2 Q0 Q0 rfl (xs := [runSaid q.lg (sheets.l.map PSheet.lg) d]) (hs.box_cells Q1) (by intro x hx; obtain rfl := List.mem_singleton.1 hx; exact runSaid_wf (hs.okow (x := q) (F := F) Q1) (Ph.old h_sheets hs) (lineText_le hbb (List.mem_of_getElem? hd))) (by unfold maxLen; simp only [List.length_singleton]; omega) (by simp only [List.length_singleton]; omega)) ?_
    clear hs; rintro _ w ⟨s9, F9, rfl, hl9, hs⟩
    refine Qa ?_
    refine WL.nil ?_
    refine At.blocknormal ?_
    refine At.then_ ?_
    refine WC.region ?_
    refine Qm ?_
    refine WL.p Q0 (Yl.add Q0 Q0 Q7) ?_
    refine Qa ?_
    refine WL.nil ?_
    refine At.roundC (k + 1, x6, _, _, s9, F9) (hs.only Q2) ⟨by rfl, by rfl, by rfl, by rfl, by rfl, by rfl, by rfl, by rfl, trivial⟩ ⟨by rfl, by rfl, by rfl, trivial⟩ ?_ ?_
    ·
     show l.l.length - (k + 1) < l.l.length - k
     omega
    ·
     have h9 := run_next hd hJ5
     rw [saidOf_ne (by assumption)] at h9
     refine ⟨by omega, run_size hx6 hJ2 hd, run_wrote hJ3 hd, by rw [hl9, List.length_append, List.length_singleton]; omega, ?_⟩
     rw [hx6, hl9]; exact h9
   ·
    replace h2 := not_eq_false h2
    replace h2 := of_decide_eq_true h2
    refine WC.skip ?_
    refine At.blocknormal ?_
    refine At.then_ ?_
    refine WC.region ?_
    refine Qm ?_
    refine WL.p Q0 (Yl.add Q0 Q0 Q7) ?_
    refine Qa ?_
    refine WL.nil ?_
    refine At.roundC (k + 1, x6, _, _, s, G) (hs.only Q2) ⟨by rfl, by rfl, by rfl, by rfl, by rfl, by rfl, by rfl, by rfl, trivial⟩ ⟨by rfl, by rfl, by rfl, trivial⟩ ?_ ?_
    ·
     show l.l.length - (k + 1) < l.l.length - k
     omega
    ·
     have h9 := run_next hd hJ5
     rw [saidOf_nil (by assumption), List.append_nil] at h9
     refine ⟨by omega, run_size hx6 hJ2 hd, run_wrote hJ3 hd, by omega, ?_⟩
     rw [hx6]; exact h9
  ·
   refine WI.r (i := 11) Q0 Q0 (Yr.alloc hs zt64) (by rintro _ w ⟨b10, rfl, hb, hs⟩; exact hs.only Q2) ?_
   clear hs; rintro _ w ⟨b10, rfl, hb, hs⟩; clear hb
   refine WA.call2 (i := 6) hs (fun _ hs => hs.only Q2) Q6 Q0 Q0 (Yc.func Q0 fn48) (c_spec_RunLine _ _ _ _ ⟨(hs.okow (x := q) (F := F) Q1).nodes, (hs.okow (x := q) (F := F) Q1).opn⟩ (Ph.old h_sheets hs) (Ph.old (Sl.Ok.elem h_l hd) hs) (by have := lsz_take TLine.size l.l k; omega) (by have h9 := lsum_le (f := TLine.size) (List.mem_of_getElem? hd); simp only [lsz, TLine.size] at h9 hbb ⊢; omega)) ?_
   have hs0 := hs; clear hs; intro v w hb hR hs; clear hs
   obtain ⟨x11, rfl, hx11, hf11⟩ := hR
   obtain ⟨F11, hs⟩ := hf11.sat hs0 hb; clear hs0 hf11
   refine WA.p (i := 7) Q0 Q6 Q6 Q6 Q0 (hs.only Q2) (fun w hs => Yl.move Q0) ?_
   refine WA.p (i := 8) Q0 Q6 Q6 Q6 Q0 (hs.only Q2) (fun w hs => Yl.extract Q0 Q0) ?_
   refine WA.p (i := 9) Q0 Q6 Q6 Q6 Q0 (hs.only Q2) (fun w hs => Yl.extract Q0 Q0) ?_
   refine WA.p (i := 10) Q0 Q6 Q6 Q6 Q0 (hs.only Q2) (fun w hs => Yl.extract Q0 Q0) ?_
   refine WA.s (i := 12) Q6 Q0 (Yr.storeB hs Q0 Q0 Q0 Q5 Q3 Q0 (by exact szf64)) (by rintro _ w hs; exact hs.only Q2) ?_
   clear hs; rintro _ w hs
   refine WA.p (i := 13) Q0 Q6 Q6 Q6 Q0 (hs.only Q2) (fun w hs => Yl.assign Q0) ?_
   refine WA.p (i := 14) Q0 Q6 Q6 Q6 Q0 (hs.only Q2) (fun w hs => Yl.assign Q0) ?_
   refine WA.donen Q6 ?_
   refine WC.seq ?_
   refine WL.p Q0 (Yl.loadAB agg64 Q0 hs Q1 Q0 Q0) ?_
   refine WL.s (Yr.storeB hs Q0 Q0 Q0 Q5 Q3 Q0 (by exact szf64)) ?_
   clear hs; rintro _ w hs
   refine WL.next ?_
   refine WC.seq ?_
   refine Qm ?_
   refine Qm ?_
   refine WL.p Q0 (Yl.cat Q0 Q0 (by exact wrote_len (lsz_take TLine.size l.l k) hJ3 hbb (List.mem_of_getElem? hd))) ?_
   refine Qa ?_
   refine WL.next ?_
   refine WC.seq ?_
   refine Qm ?_
   refine WL.p Q0 (Yl.nes Q0 Q0) ?_
   refine WL.next ?_
   refine WC.condS Q0 (fun h2 => ?_) (fun h2 => ?_)
   ·
    replace h2 := not_eq_true h2
    replace h2 := of_decide_eq_false h2
    refine WC.region ?_
    refine Qm ?_
    refine Qm ?_
    refine WL.r Q0 (Yr.buildSlice hs sll34 Q0 Q0 Q0 Q4 Q0) ?_
    clear hs; rintro _ w ⟨b12, rfl, hb, hs⟩; clear hb
    refine WL.r Q0 (Yr.append (s := s) (F := G) hs elt34 Q2 Q0 Q0 rfl (xs := [runSaid q.lg (sheets.l.map PSheet.lg) d]) (hs.box_cells Q1) (by intro x hx; obtain rfl := List.mem_singleton.1 hx; exact runSaid_wf (hs.okow (x := q) (F := F) Q1) (Ph.old h_sheets hs) (lineText_le hbb (List.mem_of_getElem? hd))) (by unfold maxLen; simp only [List.length_singleton]; omega) (by simp only [List.length_singleton]; omega)) ?_
    clear hs; rintro _ w ⟨s13, F13, rfl, hl13, hs⟩
    refine Qa ?_
    refine WL.nil ?_
    refine At.blocknormal ?_
    refine At.then_ ?_
    refine WC.region ?_
    refine Qm ?_
    refine WL.p Q0 (Yl.add Q0 Q0 Q7) ?_
    refine Qa ?_
    refine WL.nil ?_
    refine At.roundC (k + 1, x11, _, _, s13, F13) (hs.only Q2) ⟨by rfl, by rfl, by rfl, by rfl, by rfl, by rfl, by rfl, by rfl, trivial⟩ ⟨by rfl, by rfl, by rfl, trivial⟩ ?_ ?_
    ·
     show l.l.length - (k + 1) < l.l.length - k
     omega
    ·
     have h9 := run_next hd hJ5
     rw [saidOf_ne (by assumption)] at h9
     refine ⟨by omega, run_size hx11 hJ2 hd, run_wrote hJ3 hd, by rw [hl13, List.length_append, List.length_singleton]; omega, ?_⟩
     rw [hx11, hl13]; exact h9
   ·
    replace h2 := not_eq_false h2
    replace h2 := of_decide_eq_true h2
    refine WC.skip ?_
    refine At.blocknormal ?_
    refine At.then_ ?_
    refine WC.region ?_
    refine Qm ?_
    refine WL.p Q0 (Yl.add Q0 Q0 Q7) ?_
    refine Qa ?_
    refine WL.nil ?_
    refine At.roundC (k + 1, x11, _, _, s, G) (hs.only Q2) ⟨by rfl, by rfl, by rfl, by rfl, by rfl, by rfl, by rfl, by rfl, trivial⟩ ⟨by rfl, by rfl, by rfl, trivial⟩ ?_ ?_
    ·
     show l.l.length - (k + 1) < l.l.length - k
     omega
    ·
     have h9 := run_next hd hJ5
     rw [saidOf_nil (by assumption), List.append_nil] at h9
     refine ⟨by omega, run_size hx11 hJ2 hd, run_wrote hJ3 hd, by omega, ?_⟩
     rw [hx11]; exact h9
 ·
  replace h1 := of_decide_eq_false h1
  refine WC.exit ?_
  refine At.thenexit ?_
  refine At.thenexit ?_
  refine At.blockexit ?_
  refine At.then_ ?_
  refine WC.seq ?_
  refine WL.p Q0 (Yl.loadAB agg64 Q0 hs Q1 Q0 Q0) ?_
  refine Qm ?_
  refine Qm ?_
  refine WL.s (Yr.storeB hs Q0 Q0 Q0 Q5 Q3 Q0 (by exact szf64)) ?_
  clear hs; rintro _ w hs
  refine Qa ?_
  refine Qa ?_
  refine WL.next ?_
  refine WC.ret ?_
  refine fin3c rfl agg64 Q0 Q0 Q0 hs Q1 Q0 ?_
  have h8 := lsz_take TLine.size l.l k
  have hWl : W.length ≤ 1048576 := by omega
  refine Ret.mk hs ?_
  refine ⟨q, _, s, rfl, (by first | trivial | assumption | exact Flat.any (by assumption) | exact ⟨by omega, by omega⟩ | (show WfS _; unfold WfS; omega) | (show WfS _; unfold WfS; simp only [List.length_append, List.length_cons, List.length_nil] at *; omega) | (refine Ph.old ?_ hs; assumption)), ?_, ?_⟩
  ·
   have h9 := run_end Q7 hJ5
   rw [h9]; exact ⟨rfl, rfl, rfl⟩
  ·
   exact hs.fresh2 (x := q) (F := F) (y := s) (G := G) Q2

theorem c_laws_toLine (a : TLine) (w : World)   : Calls Tryz.prog 54 [.agg #[I a.op, S a.text]].toArray w (RetP w (.agg (Ph.enc a).toArray)) := by
 refine enterN 11 Tryz.func54 rfl rfl rfl ?_
 have hs := Sat.start w
 refine WC.seq ?_
 refine WL.r Q0 (Yr.box hs Q0 Q0) ?_
 clear hs; rintro _ w ⟨b1, rfl, hb, hs⟩; clear hb
 refine WL.r Q0 (Yr.alloc hs zt87) ?_
 clear hs; rintro _ w ⟨b2, rfl, hb, hs⟩; clear hb
 refine WL.next ?_
 refine WC.seq ?_
 refine WL.r Q0 (Yr.alloc hs zt87) ?_
 clear hs; rintro _ w ⟨b3, rfl, hb, hs⟩; clear hb
 refine WL.next ?_
 refine WC.seq ?_
 refine WL.p Q0 (Yl.fieldAddr fa97_0 Q0) ?_
 refine WL.p Q0 (Yl.loadB sca3 Q0 hs Q1 Q0) ?_
 refine WL.p Q0 (Yl.fieldAddr fa87_0 Q0) ?_
 refine WL.s (Yr.storeB hs Q0 Q0 Q0 Q5 Q3 Q0 (by exact szf3)) ?_
 clear hs; rintro _ w hs
 refine WL.next ?_
 refine WC.seq ?_
 refine WL.p Q0 (Yl.fieldAddr fa97_1 Q0) ?_
 refine WL.p Q0 (Yl.loadB sca9 Q0 hs Q1 Q0) ?_
 refine WL.p Q0 (Yl.fieldAddr fa87_1 Q0) ?_
 refine WL.s (Yr.storeB hs Q0 Q0 Q0 Q5 Q3 Q0 (by exact szf9)) ?_
 clear hs; rintro _ w hs
 refine WL.next ?_
 refine WC.seq ?_
 refine WL.p Q0 (Yl.loadAB agg87 Q0 hs Q1 Q0 Q0) ?_
 refine WL.s (Yr.storeB hs Q0 Q0 Q0 Q5 Q3 Q0 (by exact szf87)) ?_
 clear hs; rintro _ w hs
 refine WL.next ?_
 refine WC.ret ?_
 refine fin1c rfl agg87 Q0 hs Q1 Q0 ?_
 refine RetP.mk hs ?_
 rfl

theorem c_laws_toLineS (a : (Sl TLine)) (w : World) (h_a : Ph.ok w a) (hb : a.l.length ≤ 1048576) : Calls Tryz.prog 77 [Sl.v a].toArray w (Ret w (fun v w' => ∃ x : Sl TLine, v = x.v ∧ x.l = a.l ∧ Fresh w x w')) := by
 have hw := h_a.lt
 refine enterN 23 Tryz.func77 rfl rfl rfl ?_
 have hs := Sat.start w
 refine WC.seq ?_
 refine Qa ?_
 refine WL.next ?_
 refine WC.seq ?_
 refine Qm ?_
 refine WL.p Q0 (Yl.len_sl slu126 Q0) ?_
 refine WL.r Q0 (Yr.makeSlice (z := (⟨0, []⟩ : TLine)) (bytes := 24) hs elt79 Q0 Q0 Q7 (by unfold maxLen; omega)) ?_
 clear hs; rintro _ w ⟨s1, F1, rfl, hl1, hb, hs⟩; clear hb
 refine Qa ?_
 refine WL.next ?_
 refine WC.seq' ?_
 refine WC.seq ?_
 refine Qa ?_
 refine WL.next ?_
 refine WC.block ?_
 refine WC.loopC (ι := Nat × Sl TLine × List Nat) (fun ⟨k, s, F⟩ => a.l.length - k) (fun ⟨k, s, F⟩ => [(4, I (k : Int)), (3, s.v)]) (fun ⟨k, s, F⟩ => [ow s F]) (fun ⟨k, s, F⟩ => k ≤ a.l.length ∧ s.l = a.l.take k ++ List.replicate (a.l.length - k) (⟨0, []⟩ : TLine)) [(0, _), (2, _)] (0, s1, F1) (hs.sel (D := [ow s1 F1]) Q2) ⟨by rfl, by rfl, trivial⟩ ⟨by rfl, by rfl, trivial⟩ ?_ ?_
 ·
  exact ⟨Nat.zero_le _, by simp [hl1]⟩
 clear hs; rintro ⟨k, s, F⟩ w ⟨hJ1, hJ2⟩ hs
 simp only [List.cons_append, List.nil_append] at hs
 refine WC.seq' ?_
 refine WC.seq ?_
 refine Qm ?_
 refine Qm ?_
 refine WL.p Q0 (Yl.len_sl slu126 Q0) ?_
 refine WL.p Q0 (Yl.lss Q0 Q0) ?_
 refine WL.next ?_
 refine WC.condS Q0 (fun h1 => ?_) (fun h1 => ?_)
 ·
  replace h1 := of_decide_eq_true h1
  obtain ⟨d, hd⟩ := exists_get (l := a.l) (k := k) Q7
  have hkl : k < s.l.length := by rw [hJ2]; simp; omega
  refine WC.skipn ?_
  refine WC.seq' ?_
  refine WC.block ?_
  refine WC.region ?_
  refine Qm ?_
  refine Qm ?_
  refine Qm ?_
  refine Qm ?_
  refine WL.p Q0 (Yl.indexAddr slt126 Q0 Q0 (Ph.old h_a hs) Q0 (hd)) ?_
  refine WL.p Q0 (Yl.loadA agg97 Q0 (Sl.Ok.at_ (Ph.old h_a hs) (by assumption)).2 Q0) ?_
  refine WL.callp hs Q0 (Yc.func Q0 fn54) (c_laws_toLine _ _) ?_
  clear hs; intro w hs
  refine WL.p Q0 (Yl.indexAddr slt79 Q0 Q0 (hs.okow (x := s) (F := F) Q1) Q0 (List.getElem?_eq_getElem hkl)) ?_
  refine WL.s (Yr.storeE (k := k) (hs.flat (by first | assumption | (refine Ph.old ?_ hs; assumption) | (refine Ph.old (Sl.Ok.elem ?_ (by assumption)) hs; assumption))) Q2 Q0 Q0 Q0 (by exact hkl) ⟨_, by rfl, by rfl⟩ szf87) ?_
  clear hs; rintro _ w ⟨F2, hs⟩
  refine WL.nil ?_
  refine At.blocknormal ?_
  refine At.then_ ?_
  refine WC.region ?_
  refine Qm ?_
  refine WL.p Q0 (Yl.add Q0 Q0 Q7) ?_
  refine Qa ?_
  refine WL.nil ?_
  refine At.roundC (k + 1, ⟨s.l.set k d, s.a, s.c⟩, _) (hs.only Q2) ⟨by rfl, by rfl, trivial⟩ ⟨by rfl, by rw [Sl.v_set]; rfl, trivial⟩ ?_ ?_
  ·
   show a.l.length - (k + 1) < a.l.length - k
   omega
  ·
   exact ⟨by omega, by simp only [hJ2]; exact fill_step hd⟩
 ·
  replace h1 := of_decide_eq_false h1
  refine WC.exit ?_
  refine At.thenexit ?_
  refine At.thenexit ?_
  refine At.blockexit ?_
  refine At.then_ ?_
  refine WC.seq ?_
  refine Qm ?_
  refine Qa ?_
  refine WL.next ?_
  refine WC.ret ?_
  refine fin1' rfl Q0 ?_
  refine Ret.mk hs ?_
  exact ⟨s, rfl, by rw [hJ2, show k = a.l.length from by omega]; simp, hs.fresh Q1⟩

theorem c_laws_eqStringS (a : (Sl Str)) (b : (Sl Str)) (w : World) (h_a : Ph.ok w a) (h_b : Ph.ok w b)  : Calls Tryz.prog 78 [Sl.v a, Sl.v b].toArray w (RetP w (Bo (decide (a.l = b.l)))) := by
 have hw := h_a.lt
 refine enterN 26 Tryz.func78 rfl rfl rfl ?_
 have hs := Sat.start w
 refine WC.seq ?_
 refine Qa ?_
 refine WL.next ?_
 refine WC.seq' ?_
 refine WC.seq ?_
 refine Qm ?_
 refine WL.p Q0 (Yl.len_sl slu34 Q0) ?_
 refine Qm ?_
 refine WL.p Q0 (Yl.len_sl slu34 Q0) ?_
 refine WL.p Q0 (Yl.nei Q0 Q0) ?_
 refine WL.next ?_
 refine WC.condS Q0 (fun h1 => ?_) (fun h1 => ?_)
 ·
  replace h1 := not_eq_true h1
  replace h1 := of_decide_eq_false h1
  refine WC.seq ?_
  refine Qa ?_
  refine WL.next ?_
  refine WC.ret ?_
  refine At.thenret ?_
  refine fin1' rfl Q0 ?_
  refine RetP.mk hs ?_
  have hne : ¬ a.l = b.l := by
   intro h
   have h2 := congrArg List.length h
   try simp at h2
   omega
  simp only [hne, decide_false]
 ·
  replace h1 := not_eq_false h1
  replace h1 := of_decide_eq_true h1
  refine WC.skipn ?_
  refine WC.seq' ?_
  refine WC.seq ?_
  refine Qa ?_
  refine WL.next ?_
  refine WC.block ?_
  refine WC.loopC (ι := Nat) (fun k => a.l.length - k) (fun k => [(5, I (k : Int))]) (fun _ => []) (fun k => decide (a.l = b.l) = decide (a.l.drop k = b.l.drop k)) [(0, _), (1, _), (10, _)] 0 (hs) ⟨by rfl, by rfl, by rfl, trivial⟩ ⟨by rfl, trivial⟩ ?_ ?_
  ·
   simp
  clear hs; rintro k w hJ hs
  simp only [List.nil_append] at hs
  refine WC.seq' ?_
  refine WC.seq ?_
  refine Qm ?_
  refine Qm ?_
  refine WL.p Q0 (Yl.len_sl slu34 Q0) ?_
  refine WL.p Q0 (Yl.lss Q0 Q0) ?_
  refine WL.next ?_
  refine WC.condS Q0 (fun h2 => ?_) (fun h2 => ?_)
  ·
   replace h2 := of_decide_eq_true h2
   obtain ⟨d, hd⟩ := exists_get (l := a.l) (k := k) Q7
   obtain ⟨d2, hd2⟩ := exists_get (l := b.l) (k := k) Q7
   rw [drop_cons hd, drop_cons hd2] at hJ
   refine WC.skipn ?_
   refine WC.seq' ?_
   refine WC.block ?_
   refine WC.quietn mixed Q6 hs ?_
   refine WQ.p Q0 (fun w hs => Yl.move Q0) ?_
   refine WQ.p Q0 (fun w hs => Yl.move Q0) ?_
   refine WQ.p Q0 (fun w hs => Yl.indexAddr slt34 Q0 Q0 (Ph.old h_a hs) Q0 (hd)) ?_
   refine WQ.p Q0 (fun w hs => Yl.loadC0 sca9 Q0 (Sl.Ok.at_ (Ph.old h_a hs) (by assumption)).2 Q0) ?_
   refine WQ.p Q0 (fun w hs => Yl.move Q0) ?_
   refine WQ.p Q0 (fun w hs => Yl.move Q0) ?_
   refine WQ.p Q0 (fun w hs => Yl.indexAddr slt34 Q0 Q0 (Ph.old h_b hs) Q0 (hd2)) ?_
   refine WQ.p Q0 (fun w hs => Yl.loadC0 sca9 Q0 (Sl.Ok.at_ (Ph.old h_b hs) (by assumption)).2 Q0) ?_
   refine WQ.p Q0 (fun w hs => Yl.nes Q0 Q0) ?_
   refine WQ.next ?_
   clear hs; intro w hs
   refine WC.condS Q0 (fun h3 => ?_) (fun h3 => ?_)
   ·
    replace h3 := not_eq_true h3
    replace h3 := of_decide_eq_false h3
    refine WC.seq ?_
    refine Qa ?_
    refine WL.next ?_
    refine WC.ret ?_
    refine At.blockret ?_
    refine At.thenret ?_
    refine At.thenret ?_
    refine At.blockret ?_
    refine At.thenret ?_
    refine fin1' rfl Q0 ?_
    refine RetP.mk hs ?_
    rw [hJ]; simp_all
   ·
    replace h3 := not_eq_false h3
    replace h3 := of_decide_eq_true h3
    refine WC.skip ?_
    refine At.blocknormal ?_
    refine At.then_ ?_
    refine WC.region ?_
    refine Qm ?_
    refine WL.p Q0 (Yl.add Q0 Q0 Q7) ?_
    refine Qa ?_
    refine WL.nil ?_
    refine At.roundC (k + 1) (hs.only Q2) ⟨by rfl, by rfl, by rfl, trivial⟩ ⟨by rfl, trivial⟩ ?_ ?_
    ·
     omega
    ·
     rw [hJ]; simp_all
  ·
   replace h2 := of_decide_eq_false h2
   rw [drop_out (l := a.l) Q7, drop_out (l := b.l) Q7] at hJ
   refine WC.exit ?_
   refine At.thenexit ?_
   refine At.thenexit ?_
   refine At.blockexit ?_
   refine At.then_ ?_
   refine WC.seq ?_
   refine Qa ?_
   refine WL.next ?_
   refine WC.ret ?_
   refine fin1' rfl Q0 ?_
   refine RetP.mk hs ?_
   rw [hJ]; simp_all

theorem c_laws_eqLine (a : TLine) (b : TLine) (w : World)   : Calls Tryz.prog 171 [.agg #[I a.op, S a.text], .agg #[I b.op, S b.text]].toArray w (RetP w (Bo (decide (a = b)))) := by
 refine enterN 15 Tryz.func171 rfl rfl rfl ?_
 have hs := Sat.start w
 refine WC.seq ?_
 refine WL.r Q0 (Yr.box hs Q0 Q0) ?_
 clear hs; rintro _ w ⟨b1, rfl, hb, hs⟩; clear hb
 refine WL.r Q0 (Yr.box hs Q0 Q0) ?_
 clear hs; rintro _ w ⟨b2, rfl, hb, hs⟩; clear hb
 refine Qa ?_
 refine WL.next ?_
 refine WC.seq' ?_
 refine WC.seq ?_
 refine WL.p Q0 (Yl.fieldAddr fa87_0 Q0) ?_
 refine WL.p Q0 (Yl.loadB sca3 Q0 hs Q1 Q0) ?_
 refine WL.p Q0 (Yl.fieldAddr fa87_0 Q0) ?_
 refine WL.p Q0 (Yl.loadB sca3 Q0 hs Q1 Q0) ?_
 refine WL.p Q0 (Yl.nei Q0 Q0) ?_
 refine WL.next ?_
 refine WC.condS Q0 (fun h1 => ?_) (fun h1 => ?_)
 ·
  replace h1 := not_eq_true h1
  replace h1 := of_decide_eq_false h1
  refine WC.seq ?_
  refine Qa ?_
  refine WL.next ?_
  refine WC.ret ?_
  refine At.thenret ?_
  refine fin1' rfl Q0 ?_
  refine RetP.mk hs ?_
  simp_all [TLine.ext_iff]
 ·
  replace h1 := not_eq_false h1
  replace h1 := of_decide_eq_true h1
  refine WC.skipn ?_
  refine WC.seq' ?_
  refine WC.seq ?_
  refine WL.p Q0 (Yl.fieldAddr fa87_1 Q0) ?_
  refine WL.p Q0 (Yl.loadB sca9 Q0 hs Q1 Q0) ?_
  refine WL.p Q0 (Yl.fieldAddr fa87_1 Q0) ?_
  refine WL.p Q0 (Yl.loadB sca9 Q0 hs Q1 Q0) ?_
  refine WL.p Q0 (Yl.nes Q0 Q0) ?_
  refine WL.next ?_
  refine WC.condS Q0 (fun h2 => ?_) (fun h2 => ?_)
  ·
   replace h2 := not_eq_true h2
   replace h2 := of_decide_eq_false h2
   refine WC.seq ?_
   refine Qa ?_
   refine WL.next ?_
   refine WC.ret ?_
   refine At.thenret ?_
   refine fin1' rfl Q0 ?_
   refine RetP.mk hs ?_
   simp_all [TLine.ext_iff]
  ·
   replace h2 := not_eq_false h2
   replace h2 := of_decide_eq_true h2
   refine WC.skipn ?_
   refine WC.seq ?_
   refine Qa ?_
   refine WL.next ?_
   refine WC.ret ?_
   refine fin1' rfl Q0 ?_
   refine RetP.mk hs ?_
   simp_all [TLine.ext_iff]

theorem c_laws_eqLineS (a : (Sl TLine)) (b : (Sl TLine)) (w : World) (h_a : Ph.ok w a) (h_b : Ph.ok w b)  : Calls Tryz.prog 79 [Sl.v a, Sl.v b].toArray w (RetP w (Bo (decide (a.l = b.l)))) := by
 have hw := h_a.lt
 refine enterN 27 Tryz.func79 rfl rfl rfl ?_
 have hs := Sat.start w
 refine WC.seq ?_
 refine Qa ?_
 refine WL.next ?_
 refine WC.seq' ?_
 refine WC.seq ?_
 refine Qm ?_
 refine WL.p Q0 (Yl.len_sl slu79 Q0) ?_
 refine Qm ?_
 refine WL.p Q0 (Yl.len_sl slu79 Q0) ?_
 refine WL.p Q0 (Yl.nei Q0 Q0) ?_
 refine WL.next ?_
 refine WC.condS Q0 (fun h1 => ?_) (fun h1 => ?_)
 ·
  replace h1 := not_eq_true h1
  replace h1 := of_decide_eq_false h1
  refine WC.seq ?_
  refine Qa ?_
  refine WL.next ?_
  refine WC.ret ?_
  refine At.thenret ?_
  refine fin1' rfl Q0 ?_
  refine RetP.mk hs ?_
  have hne : ¬ a.l = b.l := by
   intro h
   have h2 := congrArg List.length h
   try simp at h2
   omega
  simp only [hne, decide_false]
 ·
  replace h1 := not_eq_false h1
  replace h1 := of_decide_eq_true h1
  refine WC.skipn ?_
  refine WC.seq' ?_
  refine WC.seq ?_
  refine Qa ?_
  refine WL.next ?_
  refine WC.block ?_
  refine WC.loopC (ι := Nat) (fun k => a.l.length - k) (fun k => [(5, I (k : Int))]) (fun _ => []) (fun k => decide (a.l = b.l) = decide (a.l.drop k = b.l.drop k)) [(0, _), (1, _), (10, _)] 0 (hs) ⟨by rfl, by rfl, by rfl, trivial⟩ ⟨by rfl, trivial⟩ ?_ ?_
  ·
   simp
  clear hs; rintro k w hJ hs
  simp only [List.nil_append] at hs
  refine WC.seq' ?_
  refine WC.seq ?_
  refine Qm ?_
  refine Qm ?_
  refine WL.p Q0 (Yl.len_sl slu79 Q0) ?_
  refine WL.p Q0 (Yl.lss Q0 Q0) ?_
  refine WL.next ?_
  refine WC.condS Q0 (fun h2 => ?_) (fun h2 => ?_)
  ·
   replace h2 := of_decide_eq_true h2
   obtain ⟨d, hd⟩ := exists_get (l := a.l) (k := k) Q7
   obtain ⟨d2, hd2⟩ := exists_get (l := b.l) (k := k) Q7
   rw [drop_cons hd, drop_cons hd2] at hJ
   refine WC.skipn ?_
   refine WC.seq' ?_
   refine WC.block ?_
   refine WC.quietn mixed Q6 hs ?_
   refine WQ.p Q0 (fun w hs => Yl.move Q0) ?_
   refine WQ.p Q0 (fun w hs => Yl.move Q0) ?_
   refine WQ.p Q0 (fun w hs => Yl.indexAddr slt79 Q0 Q0 (Ph.old h_a hs) Q0 (hd)) ?_
   refine WQ.p Q0 (fun w hs => Yl.loadA agg87 Q0 (Sl.Ok.at_ (Ph.old h_a hs) (by assumption)).2 Q0) ?_
   refine WQ.p Q0 (fun w hs => Yl.move Q0) ?_
   refine WQ.p Q0 (fun w hs => Yl.move Q0) ?_
   refine WQ.p Q0 (fun w hs => Yl.indexAddr slt79 Q0 Q0 (Ph.old h_b hs) Q0 (hd2)) ?_
   refine WQ.p Q0 (fun w hs => Yl.loadA agg87 Q0 (Sl.Ok.at_ (Ph.old h_b hs) (by assumption)).2 Q0) ?_
   refine WQ.callp Q0 (fun w => Yc.func Q0 fn171) (fun w hs => (c_laws_eqLine _ _ _)) (fun _ _ hs hb => hs.ext hb) ?_
   refine WQ.p Q0 (fun w hs => Yl.not Q0) ?_
   refine WQ.next ?_
   clear hs; intro w hs
   refine WC.condS Q0 (fun h3 => ?_) (fun h3 => ?_)
   ·
    replace h3 := not_eq_true h3
    replace h3 := of_decide_eq_false h3
    refine WC.seq ?_
    refine Qa ?_
    refine WL.next ?_
    refine WC.ret ?_
    refine At.blockret ?_
    refine At.thenret ?_
    refine At.thenret ?_
    refine At.blockret ?_
    refine At.thenret ?_
    refine fin1' rfl Q0 ?_
    refine RetP.mk hs ?_
    rw [hJ]; simp_all
   ·
    replace h3 := not_eq_false h3
    replace h3 := of_decide_eq_true h3
    refine WC.skip ?_
    refine At.blocknormal ?_
    refine At.then_ ?_
    refine WC.region ?_
    refine Qm ?_
    refine WL.p Q0 (Yl.add Q0 Q0 Q7) ?_
    refine Qa ?_
    refine WL.nil ?_
    refine At.roundC (k + 1) (hs.only Q2) ⟨by rfl, by rfl, by rfl, trivial⟩ ⟨by rfl, trivial⟩ ?_ ?_
    ·
     omega
    ·
     rw [hJ]; simp_all
  ·
   replace h2 := of_decide_eq_false h2
   rw [drop_out (l := a.l) Q7, drop_out (l := b.l) Q7] at hJ
   refine WC.exit ?_
   refine At.thenexit ?_
   refine At.thenexit ?_
   refine At.blockexit ?_
   refine At.then_ ?_
   refine WC.seq ?_
   refine Qa ?_
   refine WL.next ?_
   refine WC.ret ?_
   refine fin1' rfl Q0 ?_
   refine RetP.mk hs ?_
   rw [hJ]; simp_all

theorem c_laws_markLineS (a : (Sl TLine)) (k : Int) (w : World) (F : List Nat) (hF : Own.own w a F) (hn : F.Nodup)  (hk0 : 0 ≤ k) (hk : k + ((costL (fun _ => 2) (a.l) : Nat) : Int) ≤ 100000000) : Calls Tryz.prog 80 [Sl.v a, I k].toArray w (RetM w a F (I (k + ((costL (fun _ => 2) (a.l) : Nat) : Int))) (fun a' => a'.l = mkL mkLine (fun _ => 2) k (a.l))) := by
 have hw := (Own.ok hF : Sl.Ok w a).lt
 have hk2 := hk
 rw [costL_const] at hk2
 refine enterN 28 Tryz.func80 rfl rfl rfl ?_
 have hs := Sat.markStart hF hn
 refine WC.seq ?_
 refine Qa ?_
 refine WL.next ?_
 refine WC.seq' ?_
 refine WC.seq ?_
 refine Qa ?_
 refine WL.next ?_
 refine WC.block ?_
 refine WC.loopC (ι := Nat × Sl TLine × List Nat × List TLine) (fun ⟨n, s, F1, p⟩ => a.l.length - n) (fun ⟨n, s, F1, p⟩ => [(5, I (n : Int)), (1, I (k + ((2 * n : Nat) : Int))), (0, s.v)]) (fun ⟨n, s, F1, p⟩ => [ow s F1]) (fun ⟨n, s, F1, p⟩ => n ≤ a.l.length ∧ s.v = a.v ∧ p.length = n ∧ s.l = p ++ a.l.drop n ∧ p = mkL mkLine (fun _ => 2) k (a.l.take n)) [(4, _)] (0, a, F, []) (hs.sel (D := [ow a F]) Q2) ⟨by rfl, trivial⟩ ⟨by rfl, by exact congrArg (fun z => some (I z)) Q7, by rfl, trivial⟩ ?_ ?_
 ·
  exact ⟨Nat.zero_le _, rfl, rfl, by simp, by simp [mkL]⟩
 clear hs; rintro ⟨n, s, F1, p⟩ w ⟨hJ1, hJ2, hJ3, hJ4, hJ5⟩ hs
 simp only [List.cons_append, List.nil_append] at hs
 refine WC.seq' ?_
 refine WC.seq ?_
 refine Qm ?_
 refine Qm ?_
 refine WL.p Q0 (Yl.len_sl slu79 Q0) ?_
 refine WL.p Q0 (Yl.lss Q0 Q0) ?_
 refine WL.next ?_
 refine WC.condS Q0 (fun h1 => ?_) (fun h1 => ?_)
 ·
  replace h1 := of_decide_eq_true h1
  have hsl : s.l.length = a.l.length := by rw [hJ4]; simp [hJ3]; omega
  obtain ⟨d, hd0⟩ := exists_get (l := a.l) (k := n) Q7
  have hd : s.l[n]? = some d := by rw [hJ4]; exact step_get hJ3 hd0
  have hkl : n < s.l.length := by omega
  refine WC.skipn ?_
  refine WC.seq' ?_
  refine WC.block ?_
  refine WC.seq ?_
  refine Qm ?_
  refine Qm ?_
  refine Qm ?_
  refine WL.p Q0 (Yl.indexAddr slt79 Q0 Q0 (hs.okow (x := s) (F := F1) Q1) Q0 (hd)) ?_
  refine WL.p Q0 (Yl.fieldAddr fa87_0 Q0) ?_
  refine WL.s (Yr.storeP (s := s) (F := F1) (d := d) (u := (⟨(k + ((2 * n : Nat) : Int)), d.text⟩ : TLine)) (k := n) (j := 0) hs Q2 Q0 Q0 Q0 hd ⟨_, by rfl, by rfl⟩ Q3 (by exact own_part_flat ⟨(by exact (show WfI ((k + ((2 * n : Nat) : Int))) from ⟨by omega, by omega⟩)), (Sl.Ok.elem (hs.okow (x := s) (F := F1) Q1) hd).text⟩) Q0 (by exact szf3)) ?_
  clear hs; rintro _ w ⟨s1, _, rfl, hv1, hl1, hg1, hs⟩
  refine WL.next ?_
  refine WC.seq ?_
  refine Qm ?_
  refine WL.p Q0 (Yl.add Q0 Q0 Q7) ?_
  refine Qa ?_
  refine WL.next ?_
  refine WC.seq ?_
  refine Qm ?_
  refine Qm ?_
  refine Qm ?_
  refine WL.callp hs Q0 (Yc.func Q0 fn172) (c_laws_markText _ _ Q7) ?_
  clear hs; intro w hs
  refine WL.p Q0 (Yl.indexAddrV slt79 Q0 hv1 Q0 (hs.okow (x := s1) (F := F1) Q1) Q0 (hg1)) ?_
  refine WL.p Q0 (Yl.fieldAddr fa87_1 Q0) ?_
  refine WL.s (Yr.storeP (s := s1) (F := F1) (d := (⟨(k + ((2 * n : Nat) : Int)), d.text⟩ : TLine)) (u := (⟨(k + ((2 * n : Nat) : Int)), (mkT ((k + ((2 * n : Nat) : Int)) + 1))⟩ : TLine)) (k := n) (j := 1) hs Q2 Q0 Q0 Q0 hg1 ⟨_, by rfl, by rfl⟩ Q3 (by exact own_part_flat ⟨(Sl.Ok.elem (hs.okow (x := s1) (F := F1) Q1) hg1).op, (by first | exact (show WfS ((mkT ((k + ((2 * n : Nat) : Int)) + 1))) from mkT_len Q7) | assumption | (refine Ph.old ?_ hs; assumption))⟩) Q0 (by exact szf9)) ?_
  clear hs; rintro _ w ⟨s2, _, rfl, hv2, hl2, hg2, hs⟩
  refine WL.next ?_
  refine WC.region ?_
  refine Qm ?_
  refine WL.p Q0 (Yl.add Q0 Q0 Q7) ?_
  refine Qa ?_
  refine WL.nil ?_
  refine At.blocknormal ?_
  refine At.then_ ?_
  refine WC.region ?_
  refine Qm ?_
  refine WL.p Q0 (Yl.add Q0 Q0 Q7) ?_
  refine Qa ?_
  refine WL.nil ?_
  refine At.roundC (n + 1, s2, F1, p ++ [(⟨(k + ((2 * n : Nat) : Int)), (mkT ((k + ((2 * n : Nat) : Int)) + 1))⟩ : TLine)]) (hs.only Q2) ⟨by rfl, trivial⟩ ⟨by rfl, by exact congrArg (fun z => some (I z)) Q7, by exact congrArg some (hv2.trans hv1).symm, trivial⟩ ?_ ?_
  ·
   show a.l.length - (n + 1) < a.l.length - n
   omega
  ·
   refine ⟨by omega, (hv2.trans hv1).trans hJ2, by simp [hJ3], ?_, ?_⟩
   · rw [hl2, hl1]; (try simp only [List.set_set]); rw [hJ4]; exact step_set hJ3 Q7
   · rw [mkL_step hd0, hJ5, costL_take_const Q7]; rfl
 ·
  replace h1 := of_decide_eq_false h1
  refine WC.exit ?_
  refine At.thenexit ?_
  refine At.thenexit ?_
  refine At.blockexit ?_
  refine At.then_ ?_
  refine WC.seq ?_
  refine Qm ?_
  refine Qa ?_
  refine WL.next ?_
  refine WC.ret ?_
  refine fin1' rfl Q0 ?_
  have hsl : s.l.length = a.l.length := by rw [hJ4]; simp [hJ3]; omega
  have hn2 : n = a.l.length := by omega
  subst hn2
  rw [costL_const]
  refine RetM.cast (congrArg I Q7) ?_
  exact RetM.of hs Q1 (Sl.v_enc hJ2) (by rw [hJ4, List.drop_length, List.append_nil, hJ5, List.take_length])

theorem c_laws_markStringS (a : (Sl Str)) (k : Int) (w : World) (F : List Nat) (hF : Own.own w a F) (hn : F.Nodup)  (hk0 : 0 ≤ k) (hk : k + ((costL (fun _ => 1) (a.l) : Nat) : Int) ≤ 100000000) : Calls Tryz.prog 81 [Sl.v a, I k].toArray w (RetM w a F (I (k + ((costL (fun _ => 1) (a.l) : Nat) : Int))) (fun a' => a'.l = mkL mkStr (fun _ => 1) k (a.l))) := by
 have hw := (Own.ok hF : Sl.Ok w a).lt
 have hk2 := hk
 rw [costL_const] at hk2
 refine enterN 20 Tryz.func81 rfl rfl rfl ?_
 have hs := Sat.markStart hF hn
 refine WC.seq ?_
 refine Qa ?_
 refine WL.next ?_
 refine WC.seq' ?_
 refine WC.seq ?_
 refine Qa ?_
 refine WL.next ?_
 refine WC.block ?_
 refine WC.loopC (ι := Nat × Sl Str × List Nat × List Str) (fun ⟨n, s, F1, p⟩ => a.l.length - n) (fun ⟨n, s, F1, p⟩ => [(5, I (n : Int)), (1, I (k + ((n : Nat) : Int))), (0, s.v)]) (fun ⟨n, s, F1, p⟩ => [ow s F1]) (fun ⟨n, s, F1, p⟩ => n ≤ a.l.length ∧ s.v = a.v ∧ p.length = n ∧ s.l = p ++ a.l.drop n ∧ p = mkL mkStr (fun _ => 1) k (a.l.take n)) [(4, _)] (0, a, F, []) (hs.sel (D := [ow a F]) Q2) ⟨by rfl, trivial⟩ ⟨by rfl, by exact congrArg (fun z => some (I z)) Q7, by rfl, trivial⟩ ?_ ?_
 ·
  exact ⟨Nat.zero_le _, rfl, rfl, by simp, by simp [mkL]⟩
 clear hs; rintro ⟨n, s, F1, p⟩ w ⟨hJ1, hJ2, hJ3, hJ4, hJ5⟩ hs
 simp only [List.cons_append, List.nil_append] at hs
 refine WC.seq' ?_
 refine WC.seq ?_
 refine Qm ?_
 refine Qm ?_
 refine WL.p Q0 (Yl.len_sl slu34 Q0) ?_
 refine WL.p Q0 (Yl.lss Q0 Q0) ?_
 refine WL.next ?_
 refine WC.condS Q0 (fun h1 => ?_) (fun h1 => ?_)
 ·
  replace h1 := of_decide_eq_true h1
  have hsl : s.l.length = a.l.length := by rw [hJ4]; simp [hJ3]; omega
  obtain ⟨d, hd0⟩ := exists_get (l := a.l) (k := n) Q7
  have hd : s.l[n]? = some d := by rw [hJ4]; exact step_get hJ3 hd0
  have hkl : n < s.l.length := by omega
  refine WC.skipn ?_
  refine WC.seq' ?_
  refine WC.block ?_
  refine WC.seq ?_
  refine Qm ?_
  refine Qm ?_
  refine Qm ?_
  refine WL.callp hs Q0 (Yc.func Q0 fn172) (c_laws_markText _ _ Q7) ?_
  clear hs; intro w hs
  refine WL.p Q0 (Yl.indexAddr slt34 Q0 Q0 (hs.okow (x := s) (F := F1) Q1) Q0 (hd)) ?_
  refine WL.s (Yr.storeE (u := mkStr (k + (n : Int)) d) (k := n) (hs.flat (x := (mkStr (k + (n : Int)) d : Str)) (by exact (mkT_len (k := k + (n : Int)) Q7 : WfS _))) Q2 Q0 Q0 Q0 (by exact hkl) ⟨_, by rfl, by rfl⟩ szf9) ?_
  clear hs; rintro _ w ⟨F1, hs⟩
  refine WL.next ?_
  refine WC.region ?_
  refine Qm ?_
  refine WL.p Q0 (Yl.add Q0 Q0 Q7) ?_
  refine Qa ?_
  refine WL.nil ?_
  refine At.blocknormal ?_
  refine At.then_ ?_
  refine WC.region ?_
  refine Qm ?_
  refine WL.p Q0 (Yl.add Q0 Q0 Q7) ?_
  refine Qa ?_
  refine WL.nil ?_
  refine At.roundC (n + 1, ⟨s.l.set n (mkStr (k + ((n : Nat) : Int)) d), s.a, s.c⟩, _, p ++ [mkStr (k + ((n : Nat) : Int)) d]) (hs.only Q2) ⟨by rfl, trivial⟩ ⟨by rfl, by exact congrArg (fun z => some (I z)) Q7, by rw [Sl.v_set]; rfl, trivial⟩ ?_ ?_
  ·
   show a.l.length - (n + 1) < a.l.length - n
   omega
  ·
   exact ⟨by omega, by rw [Sl.v_set]; exact hJ2, by simp [hJ3], by simp only [hJ4]; exact step_set hJ3 Q7, by rw [mkL_step hd0, hJ5, costL_const, List.length_take, Nat.min_eq_left Q7, Nat.one_mul]⟩
 ·
  replace h1 := of_decide_eq_false h1
  refine WC.exit ?_
  refine At.thenexit ?_
  refine At.thenexit ?_
  refine At.blockexit ?_
  refine At.then_ ?_
  refine WC.seq ?_
  refine Qm ?_
  refine Qa ?_
  refine WL.next ?_
  refine WC.ret ?_
  refine fin1' rfl Q0 ?_
  have hsl : s.l.length = a.l.length := by rw [hJ4]; simp [hJ3]; omega
  have hn2 : n = a.l.length := by omega
  subst hn2
  rw [costL_const]
  refine RetM.cast (congrArg I Q7) ?_
  exact RetM.of hs Q1 (Sl.v_enc hJ2) (by rw [hJ4, List.drop_length, List.append_nil, hJ5, List.take_length])

theorem c_laws_heldStringS (a : (Sl Str)) (k : Int) (v : List Str) (w : World) (h_a : Ph.ok w a) (hk0 : 0 ≤ k) (hk : k + ((costL (fun _ => 1) (v) : Nat) : Int) ≤ 100000000) (hm : a.l = mkL mkStr (fun _ => 1) k v) : Calls Tryz.prog 82 [Sl.v a, I k].toArray w (RetP w (I (k + ((costL (fun _ => 1) (v) : Nat) : Int)))) := by
 have hw := h_a.lt
 have hc : a.l.length = v.length := by rw [hm, mkL_length]
 have hk2 := hk
 rw [costL_const] at hk2
 refine enterN 22 Tryz.func82 rfl rfl rfl ?_
 have hs := Sat.start w
 refine WC.seq ?_
 refine Qa ?_
 refine WL.next ?_
 refine WC.seq' ?_
 refine WC.seq ?_
 refine Qa ?_
 refine WL.next ?_
 refine WC.block ?_
 refine WC.loopC (ι := Nat) (fun n => a.l.length - n) (fun n => [(5, I (n : Int)), (1, I (k + ((n : Nat) : Int)))]) (fun _ => []) (fun n => n ≤ a.l.length) [(0, _)] 0 (hs) ⟨by rfl, trivial⟩ ⟨by rfl, by exact congrArg (fun z => some (I z)) Q7, trivial⟩ ?_ ?_
 ·
  exact Nat.zero_le _
 clear hs; rintro n w hJ1 hs
 simp only [List.nil_append] at hs
 refine WC.seq' ?_
 refine WC.seq ?_
 refine Qm ?_
 refine Qm ?_
 refine WL.p Q0 (Yl.len_sl slu34 Q0) ?_
 refine WL.p Q0 (Yl.lss Q0 Q0) ?_
 refine WL.next ?_
 refine WC.condS Q0 (fun h1 => ?_) (fun h1 => ?_)
 ·
  replace h1 := of_decide_eq_true h1
  obtain ⟨y, hy⟩ := exists_get (l := v) (k := n) Q7
  have hd : a.l[n]? = some (mkStr (k + ((n : Nat) : Int)) y) := by rw [hm, mkL_get hy, costL_take_const Q7, Nat.one_mul]
  refine WC.skipn ?_
  refine WC.seq' ?_
  refine WC.block ?_
  refine WC.seq' ?_
  refine WC.quietn mixed Q6 hs ?_
  refine WQ.p Q0 (fun w hs => Yl.move Q0) ?_
  refine WQ.p Q0 (fun w hs => Yl.move Q0) ?_
  refine WQ.p Q0 (fun w hs => Yl.indexAddr slt34 Q0 Q0 (Ph.old h_a hs) Q0 (hd)) ?_
  refine WQ.p Q0 (fun w hs => Yl.loadC0 sca9 Q0 (Sl.Ok.at_ (Ph.old h_a hs) (by assumption)).2 Q0) ?_
  refine WQ.p Q0 (fun w hs => Yl.move Q0) ?_
  refine WQ.callp Q0 (fun w => Yc.func Q0 fn172) (fun w hs => (c_laws_markText _ _ Q7)) (fun _ _ hs hb => hs.ext hb) ?_
  refine WQ.p Q0 (fun w hs => Yl.nes Q0 Q0) ?_
  refine WQ.next ?_
  clear hs; intro w hs
  refine WC.condS Q0 (fun h2 => ?_) (fun h2 => ?_)
  ·
   replace h2 := not_eq_true h2
   replace h2 := of_decide_eq_false h2
   refine WC.seq ?_
   refine Qa ?_
   refine WL.next ?_
   refine WC.ret ?_
   refine At.thenret ?_
   refine At.blockret ?_
   refine At.thenret ?_
   refine At.thenret ?_
   refine At.blockret ?_
   refine At.thenret ?_
   refine fin1' rfl Q0 ?_
   refine RetP.mk hs ?_
   first
    | exact absurd rfl h2
    | (exfalso; omega)
    | (rw [costL_const]; exact congrArg I Q7)
  ·
   replace h2 := not_eq_false h2
   replace h2 := of_decide_eq_true h2
   refine WC.skipn ?_
   refine WC.region ?_
   refine Qm ?_
   refine WL.p Q0 (Yl.add Q0 Q0 Q7) ?_
   refine Qa ?_
   refine WL.nil ?_
   refine At.blocknormal ?_
   refine At.then_ ?_
   refine WC.region ?_
   refine Qm ?_
   refine WL.p Q0 (Yl.add Q0 Q0 Q7) ?_
   refine Qa ?_
   refine WL.nil ?_
   refine At.roundC (n + 1) (hs.only Q2) ⟨by rfl, trivial⟩ ⟨by rfl, by exact congrArg (fun z => some (I z)) Q7, trivial⟩ ?_ ?_
   ·
    omega
   ·
    omega
 ·
  replace h1 := of_decide_eq_false h1
  refine WC.exit ?_
  refine At.thenexit ?_
  refine At.thenexit ?_
  refine At.blockexit ?_
  refine At.then_ ?_
  refine WC.seq ?_
  refine Qm ?_
  refine Qa ?_
  refine WL.next ?_
  refine WC.ret ?_
  refine fin1' rfl Q0 ?_
  refine RetP.mk hs ?_
  first
   | exact absurd rfl h1
   | (exfalso; omega)
   | (rw [costL_const]; exact congrArg I Q7)

set_option maxHeartbeats 4000000 in
set_option maxRecDepth 20000 in
theorem c_laws_FnExactRunScript (aB : PBuilder) (aSheets : (Sl PSheet)) (aL : (Sl TLine)) (w : World) (h_aB : Ph.ok w aB) (h_aSheets : Ph.ok w aSheets) (h_aL : Ph.ok w aL) (ht_ : Tab10 Tryz.prog w) : Calls Tryz.prog 9 [.agg #[Sl.v aB.nodes, Sl.v aB.opn], Sl.v aSheets, Sl.v aL].toArray w (RetP w (Bo true)) := by
 refine enterN 179 Tryz.func9 rfl rfl rfl ?_
 have hs := Sat.start w
 refine WC.seq ?_
 refine WL.r Q0 (Yr.box hs Q0 Q0) ?_
 clear hs; rintro _ w ⟨b1, rfl, hb, hs⟩; clear hb
 refine Qa ?_
 refine WL.next ?_
 refine WC.seq ?_
 refine Qa ?_
 refine WL.next ?_
 refine WC.seq ?_
 refine WL.p Q0 (Yl.loadAB agg95 Q0 hs Q1 Q0 Q0) ?_
 refine Qm ?_
 refine WL.callp hs Q0 (Yc.func Q0 fn49) (c_laws_szBuilder _ _ _ (Ph.old h_aB hs) (by first | assumption | omega) (by first | assumption | omega)) ?_
 clear hs; intro w hs
 refine Qa ?_
 refine WL.next ?_
 refine WC.seq' ?_
 refine WC.seq ?_
 refine Qm ?_
 refine WL.p Q0 (Yl.lss Q0 Q0) ?_
 refine WL.next ?_
 refine WC.condS Q0 (fun h1 => ?_) (fun h1 => ?_)
 ·
  replace h1 := lessN_neg (of_decide_eq_true h1)
  refine WC.seq ?_
  refine Qa ?_
  refine WL.next ?_
  refine WC.ret ?_
  refine At.thenret ?_
  refine fin1' rfl Q0 ?_
  refine RetP.mk hs ?_
  simp_all
 ·
  replace h1 := lessN_nn Q7 (of_decide_eq_false h1)
  refine WC.skipn ?_
  refine WC.seq ?_
  refine Qm ?_
  refine Qm ?_
  refine WL.callp hs Q0 (Yc.func Q0 fn50) (c_laws_szSheetS _ _ _ (Ph.old h_aSheets hs) (by first | assumption | omega) (by first | assumption | omega)) ?_
  clear hs; intro w hs
  refine Qa ?_
  refine WL.next ?_
  refine WC.seq' ?_
  refine WC.seq ?_
  refine Qm ?_
  refine WL.p Q0 (Yl.lss Q0 Q0) ?_
  refine WL.next ?_
  refine WC.condS Q0 (fun h2 => ?_) (fun h2 => ?_)
  ·
   replace h2 := lessN_neg (of_decide_eq_true h2)
   refine WC.seq ?_
   refine Qa ?_
   refine WL.next ?_
   refine WC.ret ?_
   refine At.thenret ?_
   refine fin1' rfl Q0 ?_
   refine RetP.mk hs ?_
   simp_all
  ·
   replace h2 := lessN_nn Q7 (of_decide_eq_false h2)
   refine WC.skipn ?_
   refine WC.seq ?_
   refine Qm ?_
   refine Qm ?_
   refine WL.callp hs Q0 (Yc.func Q0 fn75) (c_laws_szLineS _ _ _ (Ph.old h_aL hs) (by first | assumption | omega) (by first | assumption | omega)) ?_
   clear hs; intro w hs
   refine Qa ?_
   refine WL.next ?_
   refine WC.seq' ?_
   refine WC.seq ?_
   refine Qm ?_
   refine WL.p Q0 (Yl.lss Q0 Q0) ?_
   refine WL.next ?_
   refine WC.condS Q0 (fun h3 => ?_) (fun h3 => ?_)
   ·
    replace h3 := lessN_neg (of_decide_eq_true h3)
    refine WC.seq ?_
    refine Qa ?_
    refine WL.next ?_
    refine WC.ret ?_
    refine At.thenret ?_
    refine fin1' rfl Q0 ?_
    refine RetP.mk hs ?_
    simp_all
   ·
    replace h3 := lessN_nn Q7 (of_decide_eq_false h3)
    refine WC.skipn ?_
    refine WC.seq ?_
    refine WL.p Q0 (Yl.loadAB agg95 Q0 hs Q1 Q0 Q0) ?_
    refine WL.call hs Q0 (Yc.func Q0 fn52) (c_laws_toBuilder _ _ (Ph.old h_aB hs) (by first | assumption | omega)) ?_
    have hs0 := hs; clear hs; intro v w hb hR hs; clear hs
    obtain ⟨x2, rfl, hx2, hf2⟩ := hR
    obtain ⟨F2, hs⟩ := hf2.sat hs0 hb; clear hs0 hf2
    refine Qm ?_
    refine WL.call hs Q0 (Yc.func Q0 fn53) (c_laws_toSheetS _ _ (Ph.old h_aSheets hs) (by first | assumption | omega)) ?_
    have hs0 := hs; clear hs; intro v w hb hR hs; clear hs
    obtain ⟨x3, rfl, hx3, hf3⟩ := hR
    obtain ⟨F3, hs⟩ := hf3.sat hs0 hb; clear hs0 hf3
    have hle3 := Sl.Ok.le (hs.okow (x := x3) (F := F3) Q1)
    refine Qm ?_
    refine WL.call hs Q0 (Yc.func Q0 fn77) (c_laws_toLineS _ _ (Ph.old h_aL hs) (by simp only [lsz] at *; omega)) ?_
    have hs0 := hs; clear hs; intro v w hb hR hs; clear hs
    obtain ⟨x4, rfl, hx4, hf4⟩ := hR
    obtain ⟨F4, hs⟩ := hf4.sat hs0 hb; clear hs0 hf4
    have hle4 := Sl.Ok.le (hs.okow (x := x4) (F := F4) Q1)
    refine WL.callx hs Q0 (Yc.func Q0 fn76) (c_spec_RunScript _ _ _ _ (hs.okow (x := x2) (F := F2) Q1) (hs.okow (x := x3) (F := F3) Q1) (hs.okow (x := x4) (F := F4) Q1) (by simp only [hx2, hx3, hx4]; omega)) ?_
    clear hs; intro v w ho hR hs
    obtain ⟨x5_xb, x5_xw, x5_xl, rfl, hokx5_xw, hx5, hf5⟩ := hR
    obtain ⟨F5, F5_2, hs⟩ := hs.addF2 ho hf5
    clear ho hf5
    refine Qm ?_
    refine WL.p Q0 (Yl.extract Q0 Q0) ?_
    refine WL.p Q0 (Yl.extract Q0 Q0) ?_
    refine WL.p Q0 (Yl.extract Q0 Q0) ?_
    refine WL.r Q0 (Yr.alloc hs zt64) ?_
    clear hs; rintro _ w ⟨b6, rfl, hb, hs⟩; clear hb
    refine WL.s (Yr.storeB hs Q0 Q0 Q0 Q5 Q3 Q0 (by exact szf64)) ?_
    clear hs; rintro _ w hs
    refine Qa ?_
    refine Qa ?_
    refine WL.next ?_
    refine WC.seq ?_
    refine WL.p Q0 (Yl.loadAB agg95 Q0 hs Q1 Q0 Q0) ?_
    refine WL.call hs Q0 (Yc.func Q0 fn52) (c_laws_toBuilder _ _ (Ph.old h_aB hs) (by first | assumption | omega)) ?_
    have hs0 := hs; clear hs; intro v w hb hR hs; clear hs
    obtain ⟨x7, rfl, hx7, hf7⟩ := hR
    obtain ⟨F7, hs⟩ := hf7.sat hs0 hb; clear hs0 hf7
    refine WL.r Q0 (Yr.alloc hs zt64) ?_
    clear hs; rintro _ w ⟨b8, rfl, hb, hs⟩; clear hb
    refine WL.s (Yr.storeB hs Q0 Q0 Q0 Q5 Q3 Q0 (by exact szf64)) ?_
    clear hs; rintro _ w hs
    refine WL.next ?_
    refine WC.seq ?_
    refine Qm ?_
    refine WL.call hs Q0 (Yc.func Q0 fn53) (c_laws_toSheetS _ _ (Ph.old h_aSheets hs) (by first | assumption | omega)) ?_
    have hs0 := hs; clear hs; intro v w hb hR hs; clear hs
    obtain ⟨x9, rfl, hx9, hf9⟩ := hR
    obtain ⟨F9, hs⟩ := hf9.sat hs0 hb; clear hs0 hf9
    have hle9 := Sl.Ok.le (hs.okow (x := x9) (F := F9) Q1)
    refine Qa ?_
    refine WL.next ?_
    refine WC.seq ?_
    refine Qm ?_
    refine WL.call hs Q0 (Yc.func Q0 fn77) (c_laws_toLineS _ _ (Ph.old h_aL hs) (by simp only [lsz] at *; omega)) ?_
    have hs0 := hs; clear hs; intro v w hb hR hs; clear hs
    obtain ⟨x10, rfl, hx10, hf10⟩ := hR
    obtain ⟨F10, hs⟩ := hf10.sat hs0 hb; clear hs0 hf10
    have hle10 := Sl.Ok.le (hs.okow (x := x10) (F := F10) Q1)
    refine Qa ?_
    refine WL.next ?_
    refine WC.seq ?_
    refine WL.p Q0 (Yl.loadAB agg64 Q0 hs Q1 Q0 Q0) ?_
    refine Qm ?_
    refine Qm ?_
    refine WL.callx hs Q0 (Yc.func Q0 fn42) (c_impl_RunScript _ _ _ _ (hs.okow (x := x7) (F := F7) Q1) (hs.okow (x := x9) (F := F9) Q1) (hs.okow (x := x10) (F := F10) Q1) (by simp only [hx2, hx3, hx4, hx5, hx7, hx9, hx10]; omega) (by first | assumption | exact Sat.tab hs (by assumption))) ?_
    clear hs; intro v w ho hR hs
    obtain ⟨x11_xb, x11_xw, x11_xl, rfl, hokx11_xw, hx11, hf11⟩ := hR
    obtain ⟨F11, F11_2, hs⟩ := hs.addF2 ho hf11
    clear ho hf11
    refine Qm ?_
    refine WL.p Q0 (Yl.extract Q0 Q0) ?_
    refine WL.p Q0 (Yl.extract Q0 Q0) ?_
    refine WL.p Q0 (Yl.extract Q0 Q0) ?_
    refine WL.r Q0 (Yr.alloc hs zt64) ?_
    clear hs; rintro _ w ⟨b12, rfl, hb, hs⟩; clear hb
    refine WL.s (Yr.storeB hs Q0 Q0 Q0 Q5 Q3 Q0 (by exact szf64)) ?_
    clear hs; rintro _ w hs
    refine Qa ?_
    refine Qa ?_
    refine WL.next ?_
    refine WC.seq' ?_
    refine WC.seqJ (fun b => [(77, Bo b)]) (fun b => b = false) [(0, _), (1, _), (2, _), (3, _), (6, _), (7, _), (8, _), (9, _), (10, _), (11, _), (12, _), (13, _), (14, _), (15, _), (16, _), (27, _), (32, _), (37, _)] hs ⟨by rfl, by rfl, by rfl, by rfl, by rfl, by rfl, by rfl, by rfl, by rfl, by rfl, by rfl, by rfl, by rfl, by rfl, by rfl, by rfl, by rfl, by rfl, trivial⟩ ?_ ?_
    ·
     intro Q9 join
     refine WC.region ?_
     refine WL.p Q0 (Yl.loadAB agg64 Q0 hs Q1 Q0 Q0) ?_
     refine WL.p Q0 (Yl.loadAB agg64 Q0 hs Q1 Q0 Q0) ?_
     refine WL.callp hs Q0 (Yc.func Q0 fn55) (c_laws_eqBuilder _ _ _ (hs.okow (x := x11_xb) (F := F11) Q1) (hs.okow (x := x5_xb) (F := F5) Q1)) ?_
     clear hs; intro w hs
     refine WL.p Q0 (Yl.not Q0) ?_
     refine Qm ?_
     refine WL.split (d := 67) Q0 (fun h4 => ?_) (fun h4 => ?_)
     ·
      replace h4 := not_eq_true h4
      replace h4 := of_decide_eq_false h4
      refine WL.skip (d := 67) Q0 Q0 Q0 Q0 ?_
      refine WL.skip (d := 67) Q0 Q0 Q0 Q0 ?_
      refine WL.skip (d := 67) Q0 Q0 Q0 Q0 ?_
      refine WL.p Q0 (Yl.pickT Q0 Q0) ?_
      refine Qm ?_
      refine WL.skip (d := 72) Q0 Q0 Q0 Q0 ?_
      refine WL.skip (d := 72) Q0 Q0 Q0 Q0 ?_
      refine WL.skip (d := 72) Q0 Q0 Q0 Q0 ?_
      refine WL.skip (d := 72) Q0 Q0 Q0 Q0 ?_
      refine WL.p Q0 (Yl.pickT Q0 Q0) ?_
      refine WL.nil ?_
      refine join _ _ _ ?_ (hs.only Q2) ⟨by rfl, trivial⟩ ⟨by rfl, by rfl, by rfl, by rfl, by rfl, by rfl, by rfl, by rfl, by rfl, by rfl, by rfl, by rfl, by rfl, by rfl, by rfl, by rfl, by rfl, by rfl, trivial⟩
      (try clear join); (try clear ha); (try clear hs)
      try simp only [hx2, hx3, hx4, hx5, hx7, hx9, hx10, hx11] at h1
      try simp only [hx2, hx3, hx4, hx5, hx7, hx9, hx10, hx11] at h2
      try simp only [hx2, hx3, hx4, hx5, hx7, hx9, hx10, hx11] at h3
      try simp only [hx2, hx3, hx4, hx5, hx7, hx9, hx10, hx11] at h4
      first
       | (exfalso; omega)
       | (simp only [hx2, hx3, hx4, hx5, hx7, hx9, hx10, hx11]; simp; done)
       | (simp_all; done)
     ·
      replace h4 := not_eq_false h4
      replace h4 := of_decide_eq_true h4
      refine WL.run (d := 67) Q0 Q0 ?_
      refine Qm ?_
      refine WL.run (d := 67) Q0 Q0 ?_
      refine Qm ?_
      refine WL.run (d := 67) Q0 Q0 ?_
      refine WL.p Q0 (Yl.nes Q0 Q0) ?_
      refine WL.p Q0 (Yl.pickF Q0 Q0) ?_
      refine Qm ?_
      refine WL.split (d := 72) Q0 (fun h5 => ?_) (fun h5 => ?_)
      ·
       replace h5 := not_eq_true h5
       replace h5 := of_decide_eq_false h5
       refine WL.skip (d := 72) Q0 Q0 Q0 Q0 ?_
       refine WL.skip (d := 72) Q0 Q0 Q0 Q0 ?_
       refine WL.skip (d := 72) Q0 Q0 Q0 Q0 ?_
       refine WL.skip (d := 72) Q0 Q0 Q0 Q0 ?_
       refine WL.p Q0 (Yl.pickT Q0 Q0) ?_
       refine WL.nil ?_
       refine join _ _ _ ?_ (hs.only Q2) ⟨by rfl, trivial⟩ ⟨by rfl, by rfl, by rfl, by rfl, by rfl, by rfl, by rfl, by rfl, by rfl, by rfl, by rfl, by rfl, by rfl, by rfl, by rfl, by rfl, by rfl, by rfl, trivial⟩
       (try clear join); (try clear ha); (try clear hs)
       try simp only [hx2, hx3, hx4, hx5, hx7, hx9, hx10, hx11] at h1
       try simp only [hx2, hx3, hx4, hx5, hx7, hx9, hx10, hx11] at h2
       try simp only [hx2, hx3, hx4, hx5, hx7, hx9, hx10, hx11] at h3
       try simp only [hx2, hx3, hx4, hx5, hx7, hx9, hx10, hx11] at h4
       try simp only [hx2, hx3, hx4, hx5, hx7, hx9, hx10, hx11] at h5
       first
        | (exfalso; omega)
        | (simp only [hx2, hx3, hx4, hx5, hx7, hx9, hx10, hx11]; simp; done)
        | (simp_all; done)
      ·
       replace h5 := not_eq_false h5
       replace h5 := of_decide_eq_true h5
       refine WL.run (d := 72) Q0 Q0 ?_
       refine Qm ?_
       refine WL.run (d := 72) Q0 Q0 ?_
       refine Qm ?_
       refine WL.run (d := 72) Q0 Q0 ?_
       refine WL.callp hs Q0 (Yc.func Q0 fn78) (c_laws_eqStringS _ _ _ (hs.okow (x := x11_xl) (F := F11_2) Q1) (hs.okow (x := x5_xl) (F := F5_2) Q1)) ?_
       clear hs; intro w hs
       refine WL.run (d := 72) Q0 Q0 ?_
       refine WL.p Q0 (Yl.not Q0) ?_
       refine WL.p Q0 (Yl.pickF Q0 Q0) ?_
       refine WL.nil ?_
       refine join _ _ _ ?_ (hs.only Q2) ⟨by rfl, trivial⟩ ⟨by rfl, by rfl, by rfl, by rfl, by rfl, by rfl, by rfl, by rfl, by rfl, by rfl, by rfl, by rfl, by rfl, by rfl, by rfl, by rfl, by rfl, by rfl, trivial⟩
       (try clear join); (try clear ha); (try clear hs)
       try simp only [hx2, hx3, hx4, hx5, hx7, hx9, hx10, hx11] at h1
       try simp only [hx2, hx3, hx4, hx5, hx7, hx9, hx10, hx11] at h2
       try simp only [hx2, hx3, hx4, hx5, hx7, hx9, hx10, hx11] at h3
       try simp only [hx2, hx3, hx4, hx5, hx7, hx9, hx10, hx11] at h4
       try simp only [hx2, hx3, hx4, hx5, hx7, hx9, hx10, hx11] at h5
       first
        | (exfalso; omega)
        | (simp only [hx2, hx3, hx4, hx5, hx7, hx9, hx10, hx11]; simp; done)
        | (simp_all; done)
    ·
     clear hs; rintro _ w rfl hs
     refine WC.condF Q0 ?_
     refine WC.skipn ?_
     refine WC.seq' ?_
     refine WC.anyn mixed hs ?_
     clear hs; intro w hs
     refine WA.p (i := 0) Q0 Q6 Q6 Q6 Q0 (hs.only Q2) (fun w hs => Yl.loadAB agg64 Q0 hs Q1 Q0 Q0) ?_
     refine WA.p (i := 1) Q0 Q6 Q6 Q6 Q0 (hs.only Q2) (fun w hs => Yl.loadAB agg95 Q0 hs Q1 Q0 Q0) ?_
     refine WA.call2 (i := 2) hs (fun _ hs => hs.only Q2) Q6 Q0 Q0 (Yc.func Q0 fn52) (c_laws_toBuilder _ _ (Ph.old h_aB hs) (by first | assumption | omega)) ?_
     have hs0 := hs; clear hs; intro v w hb hR hs; clear hs
     obtain ⟨x13, rfl, hx13, hf13⟩ := hR
     obtain ⟨F13, hs⟩ := hf13.sat hs0 hb; clear hs0 hf13
     refine WA.callp2 (i := 3) hs (fun _ hs => hs.only Q2) Q6 Q0 Q0 (Yc.func Q0 fn55) (c_laws_eqBuilder _ _ _ (hs.okow (x := x7) (F := F7) Q1) (hs.okow (x := x13) (F := F13) Q1)) ?_
     clear hs; intro w hs
     refine WA.p (i := 4) Q0 Q6 Q6 Q6 Q0 (hs.only Q2) (fun w hs => Yl.not Q0) ?_
     refine WA.donen Q6 ?_
     refine WC.condS Q0 (fun h4 => ?_) (fun h4 => ?_)
     ·
      replace h4 := not_eq_true h4
      replace h4 := of_decide_eq_false h4
      refine WC.seq ?_
      refine Qa ?_
      refine WL.next ?_
      refine WC.ret ?_
      refine At.thenret ?_
      refine fin1' rfl Q0 ?_
      refine RetP.mk hs ?_
      try simp only [hx2, hx3, hx4, hx5, hx7, hx9, hx10, hx11, hx13] at h1
      try simp only [hx2, hx3, hx4, hx5, hx7, hx9, hx10, hx11, hx13] at h2
      try simp only [hx2, hx3, hx4, hx5, hx7, hx9, hx10, hx11, hx13] at h3
      try simp only [hx2, hx3, hx4, hx5, hx7, hx9, hx10, hx11, hx13] at h4
      all_goals (first | (simp only [hx2, hx3, hx4, hx5, hx7, hx9, hx10, hx11, hx13]; done) | (exfalso; omega) | simp_all)
     ·
      replace h4 := not_eq_false h4
      replace h4 := of_decide_eq_true h4
      refine WC.skipn ?_
      refine WC.seq' ?_
      refine WC.seq ?_
      refine Qm ?_
      refine Qm ?_
      refine WL.call hs Q0 (Yc.func Q0 fn53) (c_laws_toSheetS _ _ (Ph.old h_aSheets hs) (by first | assumption | omega)) ?_
      have hs0 := hs; clear hs; intro v w hb hR hs; clear hs
      obtain ⟨x14, rfl, hx14, hf14⟩ := hR
      obtain ⟨F14, hs⟩ := hf14.sat hs0 hb; clear hs0 hf14
      have hle14 := Sl.Ok.le (hs.okow (x := x14) (F := F14) Q1)
      refine WL.callp hs Q0 (Yc.func Q0 fn56) (c_laws_eqSheetS _ _ _ (hs.okow (x := x9) (F := F9) Q1) (hs.okow (x := x14) (F := F14) Q1)) ?_
      clear hs; intro w hs
      refine WL.p Q0 (Yl.not Q0) ?_
      refine WL.next ?_
      refine WC.condS Q0 (fun h5 => ?_) (fun h5 => ?_)
      ·
       replace h5 := not_eq_true h5
       replace h5 := of_decide_eq_false h5
       refine WC.seq ?_
       refine Qa ?_
       refine WL.next ?_
       refine WC.ret ?_
       refine At.thenret ?_
       refine fin1' rfl Q0 ?_
       refine RetP.mk hs ?_
       try simp only [hx2, hx3, hx4, hx5, hx7, hx9, hx10, hx11, hx13, hx14] at h1
       try simp only [hx2, hx3, hx4, hx5, hx7, hx9, hx10, hx11, hx13, hx14] at h2
       try simp only [hx2, hx3, hx4, hx5, hx7, hx9, hx10, hx11, hx13, hx14] at h3
       try simp only [hx2, hx3, hx4, hx5, hx7, hx9, hx10, hx11, hx13, hx14] at h4
       try simp only [hx2, hx3, hx4, hx5, hx7, hx9, hx10, hx11, hx13, hx14] at h5
       all_goals (first | (simp only [hx2, hx3, hx4, hx5, hx7, hx9, hx10, hx11, hx13, hx14]; done) | (exfalso; omega) | simp_all)
      ·
       replace h5 := not_eq_false h5
       replace h5 := of_decide_eq_true h5
       refine WC.skipn ?_
       refine WC.seq' ?_
       refine WC.seq ?_
       refine Qm ?_
       refine Qm ?_
       refine WL.call hs Q0 (Yc.func Q0 fn77) (c_laws_toLineS _ _ (Ph.old h_aL hs) (by simp only [lsz] at *; omega)) ?_
       have hs0 := hs; clear hs; intro v w hb hR hs; clear hs
       obtain ⟨x15, rfl, hx15, hf15⟩ := hR
       obtain ⟨F15, hs⟩ := hf15.sat hs0 hb; clear hs0 hf15
       have hle15 := Sl.Ok.le (hs.okow (x := x15) (F := F15) Q1)
       refine WL.callp hs Q0 (Yc.func Q0 fn79) (c_laws_eqLineS _ _ _ (hs.okow (x := x10) (F := F10) Q1) (hs.okow (x := x15) (F := F15) Q1)) ?_
       clear hs; intro w hs
       refine WL.p Q0 (Yl.not Q0) ?_
       refine WL.next ?_
       refine WC.condS Q0 (fun h6 => ?_) (fun h6 => ?_)
       ·
        replace h6 := not_eq_true h6
        replace h6 := of_decide_eq_false h6
        refine WC.seq ?_
        refine Qa ?_
        refine WL.next ?_
        refine WC.ret ?_
        refine At.thenret ?_
        refine fin1' rfl Q0 ?_
        refine RetP.mk hs ?_
        try simp only [hx2, hx3, hx4, hx5, hx7, hx9, hx10, hx11, hx13, hx14, hx15] at h1
        try simp only [hx2, hx3, hx4, hx5, hx7, hx9, hx10, hx11, hx13, hx14, hx15] at h2
        try simp only [hx2, hx3, hx4, hx5, hx7, hx9, hx10, hx11, hx13, hx14, hx15] at h3
        try simp only [hx2, hx3, hx4, hx5, hx7, hx9, hx10, hx11, hx13, hx14, hx15] at h4
        try simp only [hx2, hx3, hx4, hx5, hx7, hx9, hx10, hx11, hx13, hx14, hx15] at h5
        try simp only [hx2, hx3, hx4, hx5, hx7, hx9, hx10, hx11, hx13, hx14, hx15] at h6
        all_goals (first | (simp only [hx2, hx3, hx4, hx5, hx7, hx9, hx10, hx11, hx13, hx14, hx15]; done) | (exfalso; omega) | simp_all)
       ·
        replace h6 := not_eq_false h6
        replace h6 := of_decide_eq_true h6
        refine WC.skipn ?_
        refine WC.seq ?_
        refine Qa ?_
        refine WL.next ?_
        refine WC.seq ?_
        refine WL.p Q0 (Yl.loadAB agg64 Q0 hs Q1 Q0 Q0) ?_
        refine Qm ?_
        refine WL.callm (a := x7) (F := F7) hs Q2 Q0 (Yc.func Q0 fn57) (c_laws_markBuilder x7 _ _ F7 (own_of hs Q1) (nodup_of hs Q1) (by first | assumption | omega) (by first | omega | (try simp only [hx2, hx3, hx4, hx5, hx7, hx9, hx10, hx11, hx13, hx14, hx15]); (have := costoBuilder_le aB.lg; have := (lsz_map : lsz TSheet.size (aSheets.l.map PSheet.lg) = lsz (fun x : PSheet => x.lg.size) aSheets.l); have := costSheets_le (aSheets.l.map PSheet.lg); have := costRunAll_le mkB (aSheets.l.map PSheet.lg) aL.l aB.lg; have := costLn_le aL.l; have := saidAll_len mkB (aSheets.l.map PSheet.lg) aL.l aB.lg; have := costL_one (runAll mkB (aSheets.l.map PSheet.lg) aB.lg aL.l).2.2; omega))) ?_
        clear hs; intro a16 F16 w he16 hq16 hs
        refine Qa ?_
        refine WL.next ?_
        refine WC.seq ?_
        refine Qm ?_
        refine Qm ?_
        refine WL.callm (a := x9) (F := F9) hs Q2 Q0 (Yc.func Q0 fn58) (c_laws_markSheetS x9 _ _ F9 (own_of hs Q1) (nodup_of hs Q1) (by first | assumption | omega) (by first | omega | (try simp only [hx2, hx3, hx4, hx5, hx7, hx9, hx10, hx11, hx13, hx14, hx15]); (have := costoBuilder_le aB.lg; have := (lsz_map : lsz TSheet.size (aSheets.l.map PSheet.lg) = lsz (fun x : PSheet => x.lg.size) aSheets.l); have := costSheets_le (aSheets.l.map PSheet.lg); have := costRunAll_le mkB (aSheets.l.map PSheet.lg) aL.l aB.lg; have := costLn_le aL.l; have := saidAll_len mkB (aSheets.l.map PSheet.lg) aL.l aB.lg; have := costL_one (runAll mkB (aSheets.l.map PSheet.lg) aB.lg aL.l).2.2; omega))) ?_
        clear hs; intro a17 F17 w he17 hq17 hs
        refine Qa ?_
        refine WL.next ?_
        refine WC.seq ?_
        refine Qm ?_
        refine Qm ?_
        refine WL.callm (a := x10) (F := F10) hs Q2 Q0 (Yc.func Q0 fn80) (c_laws_markLineS x10 _ _ F10 (own_of hs Q1) (nodup_of hs Q1) (by first | assumption | omega) (by first | omega | (try simp only [hx2, hx3, hx4, hx5, hx7, hx9, hx10, hx11, hx13, hx14, hx15]); (have := costoBuilder_le aB.lg; have := (lsz_map : lsz TSheet.size (aSheets.l.map PSheet.lg) = lsz (fun x : PSheet => x.lg.size) aSheets.l); have := costSheets_le (aSheets.l.map PSheet.lg); have := costRunAll_le mkB (aSheets.l.map PSheet.lg) aL.l aB.lg; have := costLn_le aL.l; have := saidAll_len mkB (aSheets.l.map PSheet.lg) aL.l aB.lg; have := costL_one (runAll mkB (aSheets.l.map PSheet.lg) aB.lg aL.l).2.2; omega))) ?_
        clear hs; intro a18 F18 w he18 hq18 hs
        refine Qa ?_
        refine WL.next ?_
        refine WC.seq' ?_
        refine WC.seqJ (fun b => [(120, Bo b)]) (fun b => b = false) [(0, _), (1, _), (2, _), (3, _), (6, _), (7, _), (8, _), (9, _), (10, _), (11, _), (12, _), (13, _), (14, _), (15, _), (16, _), (17, _), (27, _), (32, _), (37, _), (77, _), (82, _), (87, _), (92, _)] hs ⟨by rfl, by rfl, by rfl, by rfl, by rfl, by rfl, by rfl, by rfl, by rfl, by rfl, by rfl, by rfl, by rfl, by rfl, by rfl, by rfl, by rfl, by rfl, by rfl, by rfl, by rfl, by rfl, by rfl, trivial⟩ ?_ ?_
        ·
         intro Q9 join
         refine WC.region ?_
         refine Qm ?_
         refine WL.p Q0 (Yl.lss Q0 Q0) ?_
         refine Qm ?_
         refine WL.split (d := 104) Q0 (fun h7 => ?_) (fun h7 => ?_)
         ·
          replace h7 := of_decide_eq_true h7
          refine WL.skip (d := 104) Q0 Q0 Q0 Q0 ?_
          refine WL.skip (d := 104) Q0 Q0 Q0 Q0 ?_
          refine WL.skip (d := 104) Q0 Q0 Q0 Q0 ?_
          refine WL.skip (d := 104) Q0 Q0 Q0 Q0 ?_
          refine WL.p Q0 (Yl.pickT Q0 Q0) ?_
          refine Qm ?_
          refine WL.skip (d := 110) Q0 Q0 Q0 Q0 ?_
          refine WL.skip (d := 110) Q0 Q0 Q0 Q0 ?_
          refine WL.skip (d := 110) Q0 Q0 Q0 Q0 ?_
          refine WL.p Q0 (Yl.pickT Q0 Q0) ?_
          refine Qm ?_
          refine WL.skip (d := 115) Q0 Q0 Q0 Q0 ?_
          refine WL.skip (d := 115) Q0 Q0 Q0 Q0 ?_
          refine WL.skip (d := 115) Q0 Q0 Q0 Q0 ?_
          refine WL.skip (d := 115) Q0 Q0 Q0 Q0 ?_
          refine WL.p Q0 (Yl.pickT Q0 Q0) ?_
          refine WL.nil ?_
          refine join _ _ _ ?_ (hs.only Q2) ⟨by rfl, trivial⟩ ⟨by rfl, by rfl, by rfl, by rfl, by rfl, by rfl, by rfl, by rfl, by rfl, by rfl, by rfl, by rfl, by rfl, by rfl, by rfl, by rfl, by rfl, by rfl, by rfl, by rfl, by rfl, by rfl, by rfl, trivial⟩
          (try clear join); (try clear ha); (try clear hs)
          try simp only [hx2, hx3, hx4, hx5, hx7, hx9, hx10, hx11, hx13, hx14, hx15, hq16, hq17, hq18] at h1
          try simp only [hx2, hx3, hx4, hx5, hx7, hx9, hx10, hx11, hx13, hx14, hx15, hq16, hq17, hq18] at h2
          try simp only [hx2, hx3, hx4, hx5, hx7, hx9, hx10, hx11, hx13, hx14, hx15, hq16, hq17, hq18] at h3
          try simp only [hx2, hx3, hx4, hx5, hx7, hx9, hx10, hx11, hx13, hx14, hx15, hq16, hq17, hq18] at h4
          try simp only [hx2, hx3, hx4, hx5, hx7, hx9, hx10, hx11, hx13, hx14, hx15, hq16, hq17, hq18] at h5
          try simp only [hx2, hx3, hx4, hx5, hx7, hx9, hx10, hx11, hx13, hx14, hx15, hq16, hq17, hq18] at h6
          try simp only [hx2, hx3, hx4, hx5, hx7, hx9, hx10, hx11, hx13, hx14, hx15, hq16, hq17, hq18] at h7
          first
           | (exfalso; omega)
           | (simp only [hx2, hx3, hx4, hx5, hx7, hx9, hx10, hx11, hx13, hx14, hx15, hq16, hq17, hq18]; simp; done)
           | (simp_all; done)
         ·
          replace h7 := of_decide_eq_false h7
          refine WL.run (d := 104) Q0 Q0 ?_
          refine WL.p Q0 (Yl.loadAB agg64 Q0 hs Q1 Q0 Q0) ?_
          refine WL.run (d := 104) Q0 Q0 ?_
          refine WL.p Q0 (Yl.loadAB agg64 Q0 hs Q1 Q0 Q0) ?_
          refine WL.run (d := 104) Q0 Q0 ?_
          refine WL.callp hs Q0 (Yc.func Q0 fn55) (c_laws_eqBuilder _ _ _ (hs.okow (x := x11_xb) (F := F11) Q1) (hs.okow (x := x5_xb) (F := F5) Q1)) ?_
          clear hs; intro w hs
          refine WL.run (d := 104) Q0 Q0 ?_
          refine WL.p Q0 (Yl.not Q0) ?_
          refine WL.p Q0 (Yl.pickF Q0 Q0) ?_
          refine Qm ?_
          refine WL.split (d := 110) Q0 (fun h8 => ?_) (fun h8 => ?_)
          ·
           replace h8 := not_eq_true h8
           replace h8 := of_decide_eq_false h8
           refine WL.skip (d := 110) Q0 Q0 Q0 Q0 ?_
           refine WL.skip (d := 110) Q0 Q0 Q0 Q0 ?_
           refine WL.skip (d := 110) Q0 Q0 Q0 Q0 ?_
           refine WL.p Q0 (Yl.pickT Q0 Q0) ?_
           refine Qm ?_
           refine WL.skip (d := 115) Q0 Q0 Q0 Q0 ?_
           refine WL.skip (d := 115) Q0 Q0 Q0 Q0 ?_
           refine WL.skip (d := 115) Q0 Q0 Q0 Q0 ?_
           refine WL.skip (d := 115) Q0 Q0 Q0 Q0 ?_
           refine WL.p Q0 (Yl.pickT Q0 Q0) ?_
           refine WL.nil ?_
           refine join _ _ _ ?_ (hs.only Q2) ⟨by rfl, trivial⟩ ⟨by rfl, by rfl, by rfl, by rfl, by rfl, by rfl, by rfl, by rfl, by rfl, by rfl, by rfl, by rfl, by rfl, by rfl, by rfl, by rfl, by rfl, by rfl, by rfl, by rfl, by rfl, by rfl, by rfl, trivial⟩
           (try clear join); (try clear ha); (try clear hs)
           try simp only [hx2, hx3, hx4, hx5, hx7, hx9, hx10, hx11, hx13, hx14, hx15, hq16, hq17, hq18] at h1
           try simp only [hx2, hx3, hx4, hx5, hx7, hx9, hx10, hx11, hx13, hx14, hx15, hq16, hq17, hq18] at h2
           try simp only [hx2, hx3, hx4, hx5, hx7, hx9, hx10, hx11, hx13, hx14, hx15, hq16, hq17, hq18] at h3
           try simp only [hx2, hx3, hx4, hx5, hx7, hx9, hx10, hx11, hx13, hx14, hx15, hq16, hq17, hq18] at h4
           try simp only [hx2, hx3, hx4, hx5, hx7, hx9, hx10, hx11, hx13, hx14, hx15, hq16, hq17, hq18] at h5
           try simp only [hx2, hx3, hx4, hx5, hx7, hx9, hx10, hx11, hx13, hx14, hx15, hq16, hq17, hq18] at h6
           try simp only [hx2, hx3, hx4, hx5, hx7, hx9, hx10, hx11, hx13, hx14, hx15, hq16, hq17, hq18] at h7
           try simp only [hx2, hx3, hx4, hx5, hx7, hx9, hx10, hx11, hx13, hx14, hx15, hq16, hq17, hq18] at h8
           first
            | (exfalso; omega)
            | (simp only [hx2, hx3, hx4, hx5, hx7, hx9, hx10, hx11, hx13, hx14, hx15, hq16, hq17, hq18]; simp; done)
            | (simp_all; done)
          ·
           replace h8 := not_eq_false h8
           replace h8 := of_decide_eq_true h8
           refine WL.run (d := 110) Q0 Q0 ?_
           refine Qm ?_
           refine WL.run (d := 110) Q0 Q0 ?_
           refine Qm ?_
           refine WL.run (d := 110) Q0 Q0 ?_
           refine WL.p Q0 (Yl.nes Q0 Q0) ?_
           refine WL.p Q0 (Yl.pickF Q0 Q0) ?_
           refine Qm ?_
           refine WL.split (d := 115) Q0 (fun h9 => ?_) (fun h9 => ?_)
           ·
            replace h9 := not_eq_true h9
            replace h9 := of_decide_eq_false h9
            refine WL.skip (d := 115) Q0 Q0 Q0 Q0 ?_
            refine WL.skip (d := 115) Q0 Q0 Q0 Q0 ?_
            refine WL.skip (d := 115) Q0 Q0 Q0 Q0 ?_
            refine WL.skip (d := 115) Q0 Q0 Q0 Q0 ?_
            refine WL.p Q0 (Yl.pickT Q0 Q0) ?_
            refine WL.nil ?_
            refine join _ _ _ ?_ (hs.only Q2) ⟨by rfl, trivial⟩ ⟨by rfl, by rfl, by rfl, by rfl, by rfl, by rfl, by rfl, by rfl, by rfl, by rfl, by rfl, by rfl, by rfl, by rfl, by rfl, by rfl, by rfl, by rfl, by rfl, by rfl, by rfl, by rfl, by rfl, trivial⟩
            (try clear join); (try clear ha); (try clear hs)
            try simp only [hx2, hx3, hx4, hx5, hx7, hx9, hx10, hx11, hx13, hx14, hx15, hq16, hq17, hq18] at h1
            try simp only [hx2, hx3, hx4, hx5, hx7, hx9, hx10, hx11, hx13, hx14, hx15, hq16, hq17, hq18] at h2
            try simp only [hx2, hx3, hx4, hx5, hx7, hx9, hx10, hx11, hx13, hx14, hx15, hq16, hq17, hq18] at h3
            try simp only [hx2, hx3, hx4, hx5, hx7, hx9, hx10, hx11, hx13, hx14, hx15, hq16, hq17, hq18] at h4
            try simp only [hx2, hx3, hx4, hx5, hx7, hx9, hx10, hx11, hx13, hx14, hx15, hq16, hq17, hq18] at h5
            try simp only [hx2, hx3, hx4, hx5, hx7, hx9, hx10, hx11, hx13, hx14, hx15, hq16, hq17, hq18] at h6
            try simp only [hx2, hx3, hx4, hx5, hx7, hx9, hx10, hx11, hx13, hx14, hx15, hq16, hq17, hq18] at h7
            try simp only [hx2, hx3, hx4, hx5, hx7, hx9, hx10, hx11, hx13, hx14, hx15, hq16, hq17, hq18] at h8
            try simp only [hx2, hx3, hx4, hx5, hx7, hx9, hx10, hx11, hx13, hx14, hx15, hq16, hq17, hq18] at h9
            first
             | (exfalso; omega)
             | (simp only [hx2, hx3, hx4, hx5, hx7, hx9, hx10, hx11, hx13, hx14, hx15, hq16, hq17, hq18]; simp; done)
             | (simp_all; done)
           ·
            replace h9 := not_eq_false h9
            replace h9 := of_decide_eq_true h9
            refine WL.run (d := 115) Q0 Q0 ?_
            refine Qm ?_
            refine WL.run (d := 115) Q0 Q0 ?_
            refine Qm ?_
            refine WL.run (d := 115) Q0 Q0 ?_
            refine WL.callp hs Q0 (Yc.func Q0 fn78) (c_laws_eqStringS _ _ _ (hs.okow (x := x11_xl) (F := F11_2) Q1) (hs.okow (x := x5_xl) (F := F5_2) Q1)) ?_
            clear hs; intro w hs
            refine WL.run (d := 115) Q0 Q0 ?_
            refine WL.p Q0 (Yl.not Q0) ?_
            refine WL.p Q0 (Yl.pickF Q0 Q0) ?_
            refine WL.nil ?_
            refine join _ _ _ ?_ (hs.only Q2) ⟨by rfl, trivial⟩ ⟨by rfl, by rfl, by rfl, by rfl, by rfl, by rfl, by rfl, by rfl, by rfl, by rfl, by rfl, by rfl, by rfl, by rfl, by rfl, by rfl, by rfl, by rfl, by rfl, by rfl, by rfl, by rfl, by rfl, trivial⟩
            (try clear join); (try clear ha); (try clear hs)
            try simp only [hx2, hx3, hx4, hx5, hx7, hx9, hx10, hx11, hx13, hx14, hx15, hq16, hq17, hq18] at h1
            try simp only [hx2, hx3, hx4, hx5, hx7, hx9, hx10, hx11, hx13, hx14, hx15, hq16, hq17, hq18] at h2
            try simp only [hx2, hx3, hx4, hx5, hx7, hx9, hx10, hx11, hx13, hx14, hx15, hq16, hq17, hq18] at h3
            try simp only [hx2, hx3, hx4, hx5, hx7, hx9, hx10, hx11, hx13, hx14, hx15, hq16, hq17, hq18] at h4
            try simp only [hx2, hx3, hx4, hx5, hx7, hx9, hx10, hx11, hx13, hx14, hx15, hq16, hq17, hq18] at h5
            try simp only [hx2, hx3, hx4, hx5, hx7, hx9, hx10, hx11, hx13, hx14, hx15, hq16, hq17, hq18] at h6
            try simp only [hx2, hx3, hx4, hx5, hx7, hx9, hx10, hx11, hx13, hx14, hx15, hq16, hq17, hq18] at h7
            try simp only [hx2, hx3, hx4, hx5, hx7, hx9, hx10, hx11, hx13, hx14, hx15, hq16, hq17, hq18] at h8
            try simp only [hx2, hx3, hx4, hx5, hx7, hx9, hx10, hx11, hx13, hx14, hx15, hq16, hq17, hq18] at h9
            first
             | (exfalso; omega)
             | (simp only [hx2, hx3, hx4, hx5, hx7, hx9, hx10, hx11, hx13, hx14, hx15, hq16, hq17, hq18]; simp; done)
             | (simp_all; done)
        ·
         clear hs; rintro _ w rfl hs
         refine WC.condF Q0 ?_
         refine WC.skipn ?_
         refine WC.seq ?_
         refine Qa ?_
         refine WL.next ?_
         refine WC.seq ?_
         refine WL.p Q0 (Yl.loadAB agg64 Q0 hs Q1 Q0 Q0) ?_
         refine Qm ?_
         refine WL.callm (a := x11_xb) (F := F11) hs Q2 Q0 (Yc.func Q0 fn57) (c_laws_markBuilder x11_xb _ _ F11 (own_of hs Q1) (nodup_of hs Q1) (by first | assumption | omega) (by first | omega | (try simp only [hx2, hx3, hx4, hx5, hx7, hx9, hx10, hx11, hx13, hx14, hx15]); (have := costoBuilder_le aB.lg; have := (lsz_map : lsz TSheet.size (aSheets.l.map PSheet.lg) = lsz (fun x : PSheet => x.lg.size) aSheets.l); have := costSheets_le (aSheets.l.map PSheet.lg); have := costRunAll_le mkB (aSheets.l.map PSheet.lg) aL.l aB.lg; have := costLn_le aL.l; have := saidAll_len mkB (aSheets.l.map PSheet.lg) aL.l aB.lg; have := costL_one (runAll mkB (aSheets.l.map PSheet.lg) aB.lg aL.l).2.2; omega))) ?_
         clear hs; intro a19 F19 w he19 hq19 hs
         refine Qa ?_
         refine WL.next ?_
         refine WC.seq ?_
         refine Qm ?_
         refine Qm ?_
         refine WL.callm (a := x11_xl) (F := F11_2) hs Q2 Q0 (Yc.func Q0 fn81) (c_laws_markStringS x11_xl _ _ F11_2 (own_of hs Q1) (nodup_of hs Q1) (by first | assumption | omega) (by first | omega | (try simp only [hx2, hx3, hx4, hx5, hx7, hx9, hx10, hx11, hx13, hx14, hx15]); (have := costoBuilder_le aB.lg; have := (lsz_map : lsz TSheet.size (aSheets.l.map PSheet.lg) = lsz (fun x : PSheet => x.lg.size) aSheets.l); have := costSheets_le (aSheets.l.map PSheet.lg); have := costRunAll_le mkB (aSheets.l.map PSheet.lg) aL.l aB.lg; have := costLn_le aL.l; have := saidAll_len mkB (aSheets.l.map PSheet.lg) aL.l aB.lg; have := costL_one (runAll mkB (aSheets.l.map PSheet.lg) aB.lg aL.l).2.2; omega))) ?_
         clear hs; intro a20 F20 w he20 hq20 hs
         refine Qa ?_
         refine WL.next ?_
         refine WC.seq ?_
         refine Qa ?_
         refine WL.next ?_
         refine WC.seq ?_
         refine WL.p Q0 (Yl.loadAB agg64 Q0 hs Q1 Q0 Q0) ?_
         refine Qm ?_
         refine WL.callp hs Q0 (Yc.func Q0 fn59) (calls_conv (congrArg (fun z => ([z, _] : List Value).toArray) (show (.agg #[Sl.v a19.nodes, Sl.v a19.opn] : Value) = .agg #[Sl.v x11_xb.nodes, Sl.v x11_xb.opn] from congrArg (fun l => Value.agg l.toArray) he19)) (c_laws_heldBuilder a19 _ x11_xb.lg _ (hs.okow (x := a19) (F := F19) Q1) (by first | assumption | omega) (by first | omega | (try simp only [hx2, hx3, hx4, hx5, hx7, hx9, hx10, hx11, hx13, hx14, hx15]); (have := costoBuilder_le aB.lg; have := (lsz_map : lsz TSheet.size (aSheets.l.map PSheet.lg) = lsz (fun x : PSheet => x.lg.size) aSheets.l); have := costSheets_le (aSheets.l.map PSheet.lg); have := costRunAll_le mkB (aSheets.l.map PSheet.lg) aL.l aB.lg; have := costLn_le aL.l; have := saidAll_len mkB (aSheets.l.map PSheet.lg) aL.l aB.lg; have := costL_one (runAll mkB (aSheets.l.map PSheet.lg) aB.lg aL.l).2.2; omega)) (by exact hq19))) ?_
         clear hs; intro w hs
         refine Qa ?_
         refine WL.next ?_
         refine WC.seq' ?_
         refine WC.seq ?_
         refine Qm ?_
         refine WL.p Q0 (Yl.lss Q0 Q0) ?_
         refine WL.next ?_
         refine WC.condS Q0 (fun h7 => ?_) (fun h7 => ?_)
         ·
          replace h7 := of_decide_eq_true h7
          refine WC.seq ?_
          refine Qa ?_
          refine WL.next ?_
          refine WC.ret ?_
          refine At.thenret ?_
          refine fin1' rfl Q0 ?_
          refine RetP.mk hs ?_
          try simp only [hx2, hx3, hx4, hx5, hx7, hx9, hx10, hx11, hx13, hx14, hx15, hq16, hq17, hq18, hq19, hq20] at h1
          try simp only [hx2, hx3, hx4, hx5, hx7, hx9, hx10, hx11, hx13, hx14, hx15, hq16, hq17, hq18, hq19, hq20] at h2
          try simp only [hx2, hx3, hx4, hx5, hx7, hx9, hx10, hx11, hx13, hx14, hx15, hq16, hq17, hq18, hq19, hq20] at h3
          try simp only [hx2, hx3, hx4, hx5, hx7, hx9, hx10, hx11, hx13, hx14, hx15, hq16, hq17, hq18, hq19, hq20] at h4
          try simp only [hx2, hx3, hx4, hx5, hx7, hx9, hx10, hx11, hx13, hx14, hx15, hq16, hq17, hq18, hq19, hq20] at h5
          try simp only [hx2, hx3, hx4, hx5, hx7, hx9, hx10, hx11, hx13, hx14, hx15, hq16, hq17, hq18, hq19, hq20] at h6
          try simp only [hx2, hx3, hx4, hx5, hx7, hx9, hx10, hx11, hx13, hx14, hx15, hq16, hq17, hq18, hq19, hq20] at h7
          all_goals (first | (simp only [hx2, hx3, hx4, hx5, hx7, hx9, hx10, hx11, hx13, hx14, hx15, hq16, hq17, hq18, hq19, hq20]; done) | (exfalso; omega) | simp_all)
         ·
          replace h7 := of_decide_eq_false h7
          refine WC.skipn ?_
          refine WC.seq ?_
          refine Qm ?_
          refine Qm ?_
          refine WL.callp hs Q0 (Yc.func Q0 fn82) (calls_conv (congrArg (fun z => ([z, _] : List Value).toArray) (show a20.v = x11_xl.v from Sl.enc_v he20)) (c_laws_heldStringS a20 _ x11_xl.l _ (hs.okow (x := a20) (F := F20) Q1) (by first | assumption | omega) (by first | omega | (try simp only [hx2, hx3, hx4, hx5, hx7, hx9, hx10, hx11, hx13, hx14, hx15]); (have := costoBuilder_le aB.lg; have := (lsz_map : lsz TSheet.size (aSheets.l.map PSheet.lg) = lsz (fun x : PSheet => x.lg.size) aSheets.l); have := costSheets_le (aSheets.l.map PSheet.lg); have := costRunAll_le mkB (aSheets.l.map PSheet.lg) aL.l aB.lg; have := costLn_le aL.l; have := saidAll_len mkB (aSheets.l.map PSheet.lg) aL.l aB.lg; have := costL_one (runAll mkB (aSheets.l.map PSheet.lg) aB.lg aL.l).2.2; omega)) (by exact hq20))) ?_
          clear hs; intro w hs
          refine Qa ?_
          refine WL.next ?_
          refine WC.seq' ?_
          refine WC.seq ?_
          refine Qm ?_
          refine WL.p Q0 (Yl.lss Q0 Q0) ?_
          refine WL.next ?_
          refine WC.condS Q0 (fun h8 => ?_) (fun h8 => ?_)
          ·
           replace h8 := of_decide_eq_true h8
           refine WC.seq ?_
           refine Qa ?_
           refine WL.next ?_
           refine WC.ret ?_
           refine At.thenret ?_
           refine fin1' rfl Q0 ?_
           refine RetP.mk hs ?_
           try simp only [hx2, hx3, hx4, hx5, hx7, hx9, hx10, hx11, hx13, hx14, hx15, hq16, hq17, hq18, hq19, hq20] at h1
           try simp only [hx2, hx3, hx4, hx5, hx7, hx9, hx10, hx11, hx13, hx14, hx15, hq16, hq17, hq18, hq19, hq20] at h2
           try simp only [hx2, hx3, hx4, hx5, hx7, hx9, hx10, hx11, hx13, hx14, hx15, hq16, hq17, hq18, hq19, hq20] at h3
           try simp only [hx2, hx3, hx4, hx5, hx7, hx9, hx10, hx11, hx13, hx14, hx15, hq16, hq17, hq18, hq19, hq20] at h4
           try simp only [hx2, hx3, hx4, hx5, hx7, hx9, hx10, hx11, hx13, hx14, hx15, hq16, hq17, hq18, hq19, hq20] at h5
           try simp only [hx2, hx3, hx4, hx5, hx7, hx9, hx10, hx11, hx13, hx14, hx15, hq16, hq17, hq18, hq19, hq20] at h6
           try simp only [hx2, hx3, hx4, hx5, hx7, hx9, hx10, hx11, hx13, hx14, hx15, hq16, hq17, hq18, hq19, hq20] at h7
           try simp only [hx2, hx3, hx4, hx5, hx7, hx9, hx10, hx11, hx13, hx14, hx15, hq16, hq17, hq18, hq19, hq20] at h8
           all_goals (first | (simp only [hx2, hx3, hx4, hx5, hx7, hx9, hx10, hx11, hx13, hx14, hx15, hq16, hq17, hq18, hq19, hq20]; done) | (exfalso; omega) | simp_all)
          ·
           replace h8 := of_decide_eq_false h8
           refine WC.skipn ?_
           refine WC.seq' ?_
           refine WC.seq ?_
           refine Qm ?_
           refine Qm ?_
           refine WL.p Q0 (Yl.nei Q0 Q0) ?_
           refine WL.next ?_
           refine WC.condS Q0 (fun h9 => ?_) (fun h9 => ?_)
           ·
            replace h9 := not_eq_true h9
            replace h9 := of_decide_eq_false h9
            refine WC.seq ?_
            refine Qa ?_
            refine WL.next ?_
            refine WC.ret ?_
            refine At.thenret ?_
            refine fin1' rfl Q0 ?_
            refine RetP.mk hs ?_
            try simp only [hx2, hx3, hx4, hx5, hx7, hx9, hx10, hx11, hx13, hx14, hx15, hq16, hq17, hq18, hq19, hq20] at h1
            try simp only [hx2, hx3, hx4, hx5, hx7, hx9, hx10, hx11, hx13, hx14, hx15, hq16, hq17, hq18, hq19, hq20] at h2
            try simp only [hx2, hx3, hx4, hx5, hx7, hx9, hx10, hx11, hx13, hx14, hx15, hq16, hq17, hq18, hq19, hq20] at h3
            try simp only [hx2, hx3, hx4, hx5, hx7, hx9, hx10, hx11, hx13, hx14, hx15, hq16, hq17, hq18, hq19, hq20] at h4
            try simp only [hx2, hx3, hx4, hx5, hx7, hx9, hx10, hx11, hx13, hx14, hx15, hq16, hq17, hq18, hq19, hq20] at h5
            try simp only [hx2, hx3, hx4, hx5, hx7, hx9, hx10, hx11, hx13, hx14, hx15, hq16, hq17, hq18, hq19, hq20] at h6
            try simp only [hx2, hx3, hx4, hx5, hx7, hx9, hx10, hx11, hx13, hx14, hx15, hq16, hq17, hq18, hq19, hq20] at h7
            try simp only [hx2, hx3, hx4, hx5, hx7, hx9, hx10, hx11, hx13, hx14, hx15, hq16, hq17, hq18, hq19, hq20] at h8
            try simp only [hx2, hx3, hx4, hx5, hx7, hx9, hx10, hx11, hx13, hx14, hx15, hq16, hq17, hq18, hq19, hq20] at h9
            all_goals (first | (simp only [hx2, hx3, hx4, hx5, hx7, hx9, hx10, hx11, hx13, hx14, hx15, hq16, hq17, hq18, hq19, hq20]; done) | (exfalso; omega) | simp_all)
           ·
            replace h9 := not_eq_false h9
            replace h9 := of_decide_eq_true h9
            refine WC.skipn ?_
            refine WC.seq ?_
            refine WL.p Q0 (Yl.loadAB agg95 Q0 hs Q1 Q0 Q0) ?_
            refine WL.call hs Q0 (Yc.func Q0 fn52) (c_laws_toBuilder _ _ (Ph.old h_aB hs) (by first | assumption | omega)) ?_
            have hs0 := hs; clear hs; intro v w hb hR hs; clear hs
            obtain ⟨x21, rfl, hx21, hf21⟩ := hR
            obtain ⟨F21, hs⟩ := hf21.sat hs0 hb; clear hs0 hf21
            refine Qm ?_
            refine WL.call hs Q0 (Yc.func Q0 fn53) (c_laws_toSheetS _ _ (Ph.old h_aSheets hs) (by first | assumption | omega)) ?_
            have hs0 := hs; clear hs; intro v w hb hR hs; clear hs
            obtain ⟨x22, rfl, hx22, hf22⟩ := hR
            obtain ⟨F22, hs⟩ := hf22.sat hs0 hb; clear hs0 hf22
            have hle22 := Sl.Ok.le (hs.okow (x := x22) (F := F22) Q1)
            refine Qm ?_
            refine WL.call hs Q0 (Yc.func Q0 fn77) (c_laws_toLineS _ _ (Ph.old h_aL hs) (by simp only [lsz] at *; omega)) ?_
            have hs0 := hs; clear hs; intro v w hb hR hs; clear hs
            obtain ⟨x23, rfl, hx23, hf23⟩ := hR
            obtain ⟨F23, hs⟩ := hf23.sat hs0 hb; clear hs0 hf23
            have hle23 := Sl.Ok.le (hs.okow (x := x23) (F := F23) Q1)
            refine WL.callx hs Q0 (Yc.func Q0 fn42) (c_impl_RunScript _ _ _ _ (hs.okow (x := x21) (F := F21) Q1) (hs.okow (x := x22) (F := F22) Q1) (hs.okow (x := x23) (F := F23) Q1) (by simp only [hx2, hx3, hx4, hx5, hx7, hx9, hx10, hx11, hx13, hx14, hx15, hx21, hx22, hx23]; omega) (by first | assumption | exact Sat.tab hs (by assumption))) ?_
            clear hs; intro v w ho hR hs
            obtain ⟨x24_xb, x24_xw, x24_xl, rfl, hokx24_xw, hx24, hf24⟩ := hR
            obtain ⟨F24, F24_2, hs⟩ := hs.addF2 ho hf24
            clear ho hf24
            refine Qm ?_
            refine WL.p Q0 (Yl.extract Q0 Q0) ?_
            refine WL.p Q0 (Yl.extract Q0 Q0) ?_
            refine WL.p Q0 (Yl.extract Q0 Q0) ?_
            refine WL.r Q0 (Yr.alloc hs zt64) ?_
            clear hs; rintro _ w ⟨b25, rfl, hb, hs⟩; clear hb
            refine WL.s (Yr.storeB hs Q0 Q0 Q0 Q5 Q3 Q0 (by exact szf64)) ?_
            clear hs; rintro _ w hs
            refine Qa ?_
            refine Qa ?_
            refine WL.next ?_
            refine WC.seq' ?_
            refine WC.seqJ (fun b => [(165, Bo b)]) (fun b => b = false) [(0, _), (1, _), (2, _), (3, _), (6, _), (7, _), (8, _), (9, _), (10, _), (11, _), (12, _), (13, _), (14, _), (15, _), (16, _), (17, _), (18, _), (19, _), (20, _), (21, _), (22, _), (27, _), (32, _), (37, _), (77, _), (82, _), (87, _), (92, _), (120, _), (131, _), (136, _), (139, _)] hs ⟨by rfl, by rfl, by rfl, by rfl, by rfl, by rfl, by rfl, by rfl, by rfl, by rfl, by rfl, by rfl, by rfl, by rfl, by rfl, by rfl, by rfl, by rfl, by rfl, by rfl, by rfl, by rfl, by rfl, by rfl, by rfl, by rfl, by rfl, by rfl, by rfl, by rfl, by rfl, by rfl, trivial⟩ ?_ ?_
            ·
             intro Q9 join
             refine WC.region ?_
             refine WL.p Q0 (Yl.loadAB agg64 Q0 hs Q1 Q0 Q0) ?_
             refine WL.p Q0 (Yl.loadAB agg64 Q0 hs Q1 Q0 Q0) ?_
             refine WL.callp hs Q0 (Yc.func Q0 fn55) (c_laws_eqBuilder _ _ _ (hs.okow (x := x24_xb) (F := F24) Q1) (hs.okow (x := x5_xb) (F := F5) Q1)) ?_
             clear hs; intro w hs
             refine WL.p Q0 (Yl.not Q0) ?_
             refine Qm ?_
             refine WL.split (d := 155) Q0 (fun h10 => ?_) (fun h10 => ?_)
             ·
              replace h10 := not_eq_true h10
              replace h10 := of_decide_eq_false h10
              refine WL.skip (d := 155) Q0 Q0 Q0 Q0 ?_
              refine WL.skip (d := 155) Q0 Q0 Q0 Q0 ?_
              refine WL.skip (d := 155) Q0 Q0 Q0 Q0 ?_
              refine WL.p Q0 (Yl.pickT Q0 Q0) ?_
              refine Qm ?_
              refine WL.skip (d := 160) Q0 Q0 Q0 Q0 ?_
              refine WL.skip (d := 160) Q0 Q0 Q0 Q0 ?_
              refine WL.skip (d := 160) Q0 Q0 Q0 Q0 ?_
              refine WL.skip (d := 160) Q0 Q0 Q0 Q0 ?_
              refine WL.p Q0 (Yl.pickT Q0 Q0) ?_
              refine WL.nil ?_
              refine join _ _ _ ?_ (hs.only Q2) ⟨by rfl, trivial⟩ ⟨by rfl, by rfl, by rfl, by rfl, by rfl, by rfl, by rfl, by rfl, by rfl, by rfl, by rfl, by rfl, by rfl, by rfl, by rfl, by rfl, by rfl, by rfl, by rfl, by rfl, by rfl, by rfl, by rfl, by rfl, by rfl, by rfl, by rfl, by rfl, by rfl, by rfl, by rfl, by rfl, trivial⟩
              (try clear join); (try clear ha); (try clear hs)
              try simp only [hx2, hx3, hx4, hx5, hx7, hx9, hx10, hx11, hx13, hx14, hx15, hq16, hq17, hq18, hq19, hq20, hx21, hx22, hx23, hx24] at h1
              try simp only [hx2, hx3, hx4, hx5, hx7, hx9, hx10, hx11, hx13, hx14, hx15, hq16, hq17, hq18, hq19, hq20, hx21, hx22, hx23, hx24] at h2
              try simp only [hx2, hx3, hx4, hx5, hx7, hx9, hx10, hx11, hx13, hx14, hx15, hq16, hq17, hq18, hq19, hq20, hx21, hx22, hx23, hx24] at h3
              try simp only [hx2, hx3, hx4, hx5, hx7, hx9, hx10, hx11, hx13, hx14, hx15, hq16, hq17, hq18, hq19, hq20, hx21, hx22, hx23, hx24] at h4
              try simp only [hx2, hx3, hx4, hx5, hx7, hx9, hx10, hx11, hx13, hx14, hx15, hq16, hq17, hq18, hq19, hq20, hx21, hx22, hx23, hx24] at h5
              try simp only [hx2, hx3, hx4, hx5, hx7, hx9, hx10, hx11, hx13, hx14, hx15, hq16, hq17, hq18, hq19, hq20, hx21, hx22, hx23, hx24] at h6
              try simp only [hx2, hx3, hx4, hx5, hx7, hx9, hx10, hx11, hx13, hx14, hx15, hq16, hq17, hq18, hq19, hq20, hx21, hx22, hx23, hx24] at h7
              try simp only [hx2, hx3, hx4, hx5, hx7, hx9, hx10, hx11, hx13, hx14, hx15, hq16, hq17, hq18, hq19, hq20, hx21, hx22, hx23, hx24] at h8
              try simp only [hx2, hx3, hx4, hx5, hx7, hx9, hx10, hx11, hx13, hx14, hx15, hq16, hq17, hq18, hq19, hq20, hx21, hx22, hx23, hx24] at h9
              try simp only [hx2, hx3, hx4, hx5, hx7, hx9, hx10, hx11, hx13, hx14, hx15, hq16, hq17, hq18, hq19, hq20, hx21, hx22, hx23, hx24] at h10
              first
               | (exfalso; omega)
               | (simp only [hx2, hx3, hx4, hx5, hx7, hx9, hx10, hx11, hx13, hx14, hx15, hq16, hq17, hq18, hq19, hq20, hx21, hx22, hx23, hx24]; simp; done)
               | (simp_all; done)
             ·
              replace h10 := not_eq_false h10
              replace h10 := of_decide_eq_true h10
              refine WL.run (d := 155) Q0 Q0 ?_
              refine Qm ?_
              refine WL.run (d := 155) Q0 Q0 ?_
              refine Qm ?_
              refine WL.run (d := 155) Q0 Q0 ?_
              refine WL.p Q0 (Yl.nes Q0 Q0) ?_
              refine WL.p Q0 (Yl.pickF Q0 Q0) ?_
              refine Qm ?_
              refine WL.split (d := 160) Q0 (fun h11 => ?_) (fun h11 => ?_)
              ·
               replace h11 := not_eq_true h11
               replace h11 := of_decide_eq_false h11
               refine WL.skip (d := 160) Q0 Q0 Q0 Q0 ?_
               refine WL.skip (d := 160) Q0 Q0 Q0 Q0 ?_
               refine WL.skip (d := 160) Q0 Q0 Q0 Q0 ?_
               refine WL.skip (d := 160) Q0 Q0 Q0 Q0 ?_
               refine WL.p Q0 (Yl.pickT Q0 Q0) ?_
               refine WL.nil ?_
               refine join _ _ _ ?_ (hs.only Q2) ⟨by rfl, trivial⟩ ⟨by rfl, by rfl, by rfl, by rfl, by rfl, by rfl, by rfl, by rfl, by rfl, by rfl, by rfl, by rfl, by rfl, by rfl, by rfl, by rfl, by rfl, by rfl, by rfl, by rfl, by rfl, by rfl, by rfl, by rfl, by rfl, by rfl, by rfl, by rfl, by rfl, by rfl, by rfl, by rfl, trivial⟩
               (try clear join); (try clear ha); (try clear hs)
               try simp only [hx2, hx3, hx4, hx5, hx7, hx9, hx10, hx11, hx13, hx14, hx15, hq16, hq17, hq18, hq19, hq20, hx21, hx22, hx23, hx24] at h1
               try simp only [hx2, hx3, hx4, hx5, hx7, hx9, hx10, hx11, hx13, hx14, hx15, hq16, hq17, hq18, hq19, hq20, hx21, hx22, hx23, hx24] at h2
               try simp only [hx2, hx3, hx4, hx5, hx7, hx9, hx10, hx11, hx13, hx14, hx15, hq16, hq17, hq18, hq19, hq20, hx21, hx22, hx23, hx24] at h3
               try simp only [hx2, hx3, hx4, hx5, hx7, hx9, hx10, hx11, hx13, hx14, hx15, hq16, hq17, hq18, hq19, hq20, hx21, hx22, hx23, hx24] at h4
               try simp only [hx2, hx3, hx4, hx5, hx7, hx9, hx10, hx11, hx13, hx14, hx15, hq16, hq17, hq18, hq19, hq20, hx21, hx22, hx23, hx24] at h5
               try simp only [hx2, hx3, hx4, hx5, hx7, hx9, hx10, hx11, hx13, hx14, hx15, hq16, hq17, hq18, hq19, hq20, hx21, hx22, hx23, hx24] at h6
               try simp only [hx2, hx3, hx4, hx5, hx7, hx9, hx10, hx11, hx13, hx14, hx15, hq16, hq17, hq18, hq19, hq20, hx21, hx22, hx23, hx24] at h7
               try simp only [hx2, hx3, hx4, hx5, hx7, hx9, hx10, hx11, hx13, hx14, hx15, hq16, hq17, hq18, hq19, hq20, hx21, hx22, hx23, hx24] at h8
               try simp only [hx2, hx3, hx4, hx5, hx7, hx9, hx10, hx11, hx13, hx14, hx15, hq16, hq17, hq18, hq19, hq20, hx21, hx22, hx23, hx24] at h9
               try simp only [hx2, hx3, hx4, hx5, hx7, hx9, hx10, hx11, hx13, hx14, hx15, hq16, hq17, hq18, hq19, hq20, hx21, hx22, hx23, hx24] at h10
               try simp only [hx2, hx3, hx4, hx5, hx7, hx9, hx10, hx11, hx13, hx14, hx15, hq16, hq17, hq18, hq19, hq20, hx21, hx22, hx23, hx24] at h11
               first
                | (exfalso; omega)
                | (simp only [hx2, hx3, hx4, hx5, hx7, hx9, hx10, hx11, hx13, hx14, hx15, hq16, hq17, hq18, hq19, hq20, hx21, hx22, hx23, hx24]; simp; done)
                | (simp_all; done)
              ·
               replace h11 := not_eq_false h11
               replace h11 := of_decide_eq_true h11
               refine WL.run (d := 160) Q0 Q0 ?_
               refine Qm ?_
               refine WL.run (d := 160) Q0 Q0 ?_
               refine Qm ?_
               refine WL.run (d := 160) Q0 Q0 ?_
               refine WL.callp hs Q0 (Yc.func Q0 fn78) (c_laws_eqStringS _ _ _ (hs.okow (x := x24_xl) (F := F24_2) Q1) (hs.okow (x := x5_xl) (F := F5_2) Q1)) ?_
               clear hs; intro w hs
               refine WL.run (d := 160) Q0 Q0 ?_
               refine WL.p Q0 (Yl.not Q0) ?_
               refine WL.p Q0 (Yl.pickF Q0 Q0) ?_
               refine WL.nil ?_
               refine join _ _ _ ?_ (hs.only Q2) ⟨by rfl, trivial⟩ ⟨by rfl, by rfl, by rfl, by rfl, by rfl, by rfl, by rfl, by rfl, by rfl, by rfl, by rfl, by rfl, by rfl, by rfl, by rfl, by rfl, by rfl, by rfl, by rfl, by rfl, by rfl, by rfl, by rfl, by rfl, by rfl, by rfl, by rfl, by rfl, by rfl, by rfl, by rfl, by rfl, trivial⟩
               (try clear join); (try clear ha); (try clear hs)
               try simp only [hx2, hx3, hx4, hx5, hx7, hx9, hx10, hx11, hx13, hx14, hx15, hq16, hq17, hq18, hq19, hq20, hx21, hx22, hx23, hx24] at h1
               try simp only [hx2, hx3, hx4, hx5, hx7, hx9, hx10, hx11, hx13, hx14, hx15, hq16, hq17, hq18, hq19, hq20, hx21, hx22, hx23, hx24] at h2
               try simp only [hx2, hx3, hx4, hx5, hx7, hx9, hx10, hx11, hx13, hx14, hx15, hq16, hq17, hq18, hq19, hq20, hx21, hx22, hx23, hx24] at h3
               try simp only [hx2, hx3, hx4, hx5, hx7, hx9, hx10, hx11, hx13, hx14, hx15, hq16, hq17, hq18, hq19, hq20, hx21, hx22, hx23, hx24] at h4
               try simp only [hx2, hx3, hx4, hx5, hx7, hx9, hx10, hx11, hx13, hx14, hx15, hq16, hq17, hq18, hq19, hq20, hx21, hx22, hx23, hx24] at h5
               try simp only [hx2, hx3, hx4, hx5, hx7, hx9, hx10, hx11, hx13, hx14, hx15, hq16, hq17, hq18, hq19, hq20, hx21, hx22, hx23, hx24] at h6
               try simp only [hx2, hx3, hx4, hx5, hx7, hx9, hx10, hx11, hx13, hx14, hx15, hq16, hq17, hq18, hq19, hq20, hx21, hx22, hx23, hx24] at h7
               try simp only [hx2, hx3, hx4, hx5, hx7, hx9, hx10, hx11, hx13, hx14, hx15, hq16, hq17, hq18, hq19, hq20, hx21, hx22, hx23, hx24] at h8
               try simp only [hx2, hx3, hx4, hx5, hx7, hx9, hx10, hx11, hx13, hx14, hx15, hq16, hq17, hq18, hq19, hq20, hx21, hx22, hx23, hx24] at h9
               try simp only [hx2, hx3, hx4, hx5, hx7, hx9, hx10, hx11, hx13, hx14, hx15, hq16, hq17, hq18, hq19, hq20, hx21, hx22, hx23, hx24] at h10
               try simp only [hx2, hx3, hx4, hx5, hx7, hx9, hx10, hx11, hx13, hx14, hx15, hq16, hq17, hq18, hq19, hq20, hx21, hx22, hx23, hx24] at h11
               first
                | (exfalso; omega)
                | (simp only [hx2, hx3, hx4, hx5, hx7, hx9, hx10, hx11, hx13, hx14, hx15, hq16, hq17, hq18, hq19, hq20, hx21, hx22, hx23, hx24]; simp; done)
                | (simp_all; done)
            ·
             clear hs; rintro _ w rfl hs
             refine WC.condF Q0 ?_
             refine WC.skipn ?_
             refine WC.seq ?_
             refine Qa ?_
             refine WL.next ?_
             refine WC.seq ?_
             refine WL.p Q0 (Yl.loadAB agg64 Q0 hs Q1 Q0 Q0) ?_
             refine Qm ?_
             refine WL.callp hs Q0 (Yc.func Q0 fn59) (calls_conv (congrArg (fun z => ([z, _] : List Value).toArray) (show (.agg #[Sl.v a19.nodes, Sl.v a19.opn] : Value) = .agg #[Sl.v x11_xb.nodes, Sl.v x11_xb.opn] from congrArg (fun l => Value.agg l.toArray) he19)) (c_laws_heldBuilder a19 _ x11_xb.lg _ (hs.okow (x := a19) (F := F19) Q1) (by first | assumption | omega) (by first | omega | (try simp only [hx2, hx3, hx4, hx5, hx7, hx9, hx10, hx11, hx13, hx14, hx15, hx21, hx22, hx23, hx24]); (have := costoBuilder_le aB.lg; have := (lsz_map : lsz TSheet.size (aSheets.l.map PSheet.lg) = lsz (fun x : PSheet => x.lg.size) aSheets.l); have := costSheets_le (aSheets.l.map PSheet.lg); have := costRunAll_le mkB (aSheets.l.map PSheet.lg) aL.l aB.lg; have := costLn_le aL.l; have := saidAll_len mkB (aSheets.l.map PSheet.lg) aL.l aB.lg; have := costL_one (runAll mkB (aSheets.l.map PSheet.lg) aB.lg aL.l).2.2; omega)) (by exact hq19))) ?_
             clear hs; intro w hs
             refine Qa ?_
             refine WL.next ?_
             refine WC.seq' ?_
             refine WC.seq ?_
             refine Qm ?_
             refine WL.p Q0 (Yl.lss Q0 Q0) ?_
             refine WL.next ?_
             refine WC.condS Q0 (fun h10 => ?_) (fun h10 => ?_)
             ·
              replace h10 := of_decide_eq_true h10
              refine WC.seq ?_
              refine Qa ?_
              refine WL.next ?_
              refine WC.ret ?_
              refine At.thenret ?_
              refine fin1' rfl Q0 ?_
              refine RetP.mk hs ?_
              try simp only [hx2, hx3, hx4, hx5, hx7, hx9, hx10, hx11, hx13, hx14, hx15, hq16, hq17, hq18, hq19, hq20, hx21, hx22, hx23, hx24] at h1
              try simp only [hx2, hx3, hx4, hx5, hx7, hx9, hx10, hx11, hx13, hx14, hx15, hq16, hq17, hq18, hq19, hq20, hx21, hx22, hx23, hx24] at h2
              try simp only [hx2, hx3, hx4, hx5, hx7, hx9, hx10, hx11, hx13, hx14, hx15, hq16, hq17, hq18, hq19, hq20, hx21, hx22, hx23, hx24] at h3
              try simp only [hx2, hx3, hx4, hx5, hx7, hx9, hx10, hx11, hx13, hx14, hx15, hq16, hq17, hq18, hq19, hq20, hx21, hx22, hx23, hx24] at h4
              try simp only [hx2, hx3, hx4, hx5, hx7, hx9, hx10, hx11, hx13, hx14, hx15, hq16, hq17, hq18, hq19, hq20, hx21, hx22, hx23, hx24] at h5
              try simp only [hx2, hx3, hx4, hx5, hx7, hx9, hx10, hx11, hx13, hx14, hx15, hq16, hq17, hq18, hq19, hq20, hx21, hx22, hx23, hx24] at h6
              try simp only [hx2, hx3, hx4, hx5, hx7, hx9, hx10, hx11, hx13, hx14, hx15, hq16, hq17, hq18, hq19, hq20, hx21, hx22, hx23, hx24] at h7
              try simp only [hx2, hx3, hx4, hx5, hx7, hx9, hx10, hx11, hx13, hx14, hx15, hq16, hq17, hq18, hq19, hq20, hx21, hx22, hx23, hx24] at h8
              try simp only [hx2, hx3, hx4, hx5, hx7, hx9, hx10, hx11, hx13, hx14, hx15, hq16, hq17, hq18, hq19, hq20, hx21, hx22, hx23, hx24] at h9
              try simp only [hx2, hx3, hx4, hx5, hx7, hx9, hx10, hx11, hx13, hx14, hx15, hq16, hq17, hq18, hq19, hq20, hx21, hx22, hx23, hx24] at h10
              all_goals (first | (simp only [hx2, hx3, hx4, hx5, hx7, hx9, hx10, hx11, hx13, hx14, hx15, hq16, hq17, hq18, hq19, hq20, hx21, hx22, hx23, hx24]; done) | (exfalso; omega) | simp_all)
             ·
              replace h10 := of_decide_eq_false h10
              refine WC.skipn ?_
              refine WC.seq ?_
              refine Qm ?_
              refine Qm ?_
              refine WL.callp hs Q0 (Yc.func Q0 fn82) (calls_conv (congrArg (fun z => ([z, _] : List Value).toArray) (show a20.v = x11_xl.v from Sl.enc_v he20)) (c_laws_heldStringS a20 _ x11_xl.l _ (hs.okow (x := a20) (F := F20) Q1) (by first | assumption | omega) (by first | omega | (try simp only [hx2, hx3, hx4, hx5, hx7, hx9, hx10, hx11, hx13, hx14, hx15, hx21, hx22, hx23, hx24]); (have := costoBuilder_le aB.lg; have := (lsz_map : lsz TSheet.size (aSheets.l.map PSheet.lg) = lsz (fun x : PSheet => x.lg.size) aSheets.l); have := costSheets_le (aSheets.l.map PSheet.lg); have := costRunAll_le mkB (aSheets.l.map PSheet.lg) aL.l aB.lg; have := costLn_le aL.l; have := saidAll_len mkB (aSheets.l.map PSheet.lg) aL.l aB.lg; have := costL_one (runAll mkB (aSheets.l.map PSheet.lg) aB.lg aL.l).2.2; omega)) (by exact hq20))) ?_
              clear hs; intro w hs
              refine Qa ?_
              refine WL.next ?_
              refine WC.seq' ?_
              refine WC.seq ?_
              refine Qm ?_
              refine WL.p Q0 (Yl.lss Q0 Q0) ?_
              refine WL.next ?_
              refine WC.condS Q0 (fun h11 => ?_) (fun h11 => ?_)
              ·
               replace h11 := of_decide_eq_true h11
               refine WC.seq ?_
               refine Qa ?_
               refine WL.next ?_
               refine WC.ret ?_
               refine At.thenret ?_
               refine fin1' rfl Q0 ?_
               refine RetP.mk hs ?_
               try simp only [hx2, hx3, hx4, hx5, hx7, hx9, hx10, hx11, hx13, hx14, hx15, hq16, hq17, hq18, hq19, hq20, hx21, hx22, hx23, hx24] at h1
               try simp only [hx2, hx3, hx4, hx5, hx7, hx9, hx10, hx11, hx13, hx14, hx15, hq16, hq17, hq18, hq19, hq20, hx21, hx22, hx23, hx24] at h2
               try simp only [hx2, hx3, hx4, hx5, hx7, hx9, hx10, hx11, hx13, hx14, hx15, hq16, hq17, hq18, hq19, hq20, hx21, hx22, hx23, hx24] at h3
               try simp only [hx2, hx3, hx4, hx5, hx7, hx9, hx10, hx11, hx13, hx14, hx15, hq16, hq17, hq18, hq19, hq20, hx21, hx22, hx23, hx24] at h4
               try simp only [hx2, hx3, hx4, hx5, hx7, hx9, hx10, hx11, hx13, hx14, hx15, hq16, hq17, hq18, hq19, hq20, hx21, hx22, hx23, hx24] at h5
               try simp only [hx2, hx3, hx4, hx5, hx7, hx9, hx10, hx11, hx13, hx14, hx15, hq16, hq17, hq18, hq19, hq20, hx21, hx22, hx23, hx24] at h6
               try simp only [hx2, hx3, hx4, hx5, hx7, hx9, hx10, hx11, hx13, hx14, hx15, hq16, hq17, hq18, hq19, hq20, hx21, hx22, hx23, hx24] at h7
               try simp only [hx2, hx3, hx4, hx5, hx7, hx9, hx10, hx11, hx13, hx14, hx15, hq16, hq17, hq18, hq19, hq20, hx21, hx22, hx23, hx24] at h8
               try simp only [hx2, hx3, hx4, hx5, hx7, hx9, hx10, hx11, hx13, hx14, hx15, hq16, hq17, hq18, hq19, hq20, hx21, hx22, hx23, hx24] at h9
               try simp only [hx2, hx3, hx4, hx5, hx7, hx9, hx10, hx11, hx13, hx14, hx15, hq16, hq17, hq18, hq19, hq20, hx21, hx22, hx23, hx24] at h10
               try simp only [hx2, hx3, hx4, hx5, hx7, hx9, hx10, hx11, hx13, hx14, hx15, hq16, hq17, hq18, hq19, hq20, hx21, hx22, hx23, hx24] at h11
               all_goals (first | (simp only [hx2, hx3, hx4, hx5, hx7, hx9, hx10, hx11, hx13, hx14, hx15, hq16, hq17, hq18, hq19, hq20, hx21, hx22, hx23, hx24]; done) | (exfalso; omega) | simp_all)
              ·
               replace h11 := of_decide_eq_false h11
               refine WC.skipn ?_
               refine WC.seq' ?_
               refine WC.seq ?_
               refine Qm ?_
               refine Qm ?_
               refine WL.p Q0 (Yl.nei Q0 Q0) ?_
               refine WL.next ?_
               refine WC.condS Q0 (fun h12 => ?_) (fun h12 => ?_)
               ·
                replace h12 := not_eq_true h12
                replace h12 := of_decide_eq_false h12
                refine WC.seq ?_
                refine Qa ?_
                refine WL.next ?_
                refine WC.ret ?_
                refine At.thenret ?_
                refine fin1' rfl Q0 ?_
                refine RetP.mk hs ?_
                try simp only [hx2, hx3, hx4, hx5, hx7, hx9, hx10, hx11, hx13, hx14, hx15, hq16, hq17, hq18, hq19, hq20, hx21, hx22, hx23, hx24] at h1
                try simp only [hx2, hx3, hx4, hx5, hx7, hx9, hx10, hx11, hx13, hx14, hx15, hq16, hq17, hq18, hq19, hq20, hx21, hx22, hx23, hx24] at h2
                try simp only [hx2, hx3, hx4, hx5, hx7, hx9, hx10, hx11, hx13, hx14, hx15, hq16, hq17, hq18, hq19, hq20, hx21, hx22, hx23, hx24] at h3
                try simp only [hx2, hx3, hx4, hx5, hx7, hx9, hx10, hx11, hx13, hx14, hx15, hq16, hq17, hq18, hq19, hq20, hx21, hx22, hx23, hx24] at h4
                try simp only [hx2, hx3, hx4, hx5, hx7, hx9, hx10, hx11, hx13, hx14, hx15, hq16, hq17, hq18, hq19, hq20, hx21, hx22, hx23, hx24] at h5
                try simp only [hx2, hx3, hx4, hx5, hx7, hx9, hx10, hx11, hx13, hx14, hx15, hq16, hq17, hq18, hq19, hq20, hx21, hx22, hx23, hx24] at h6
                try simp only [hx2, hx3, hx4, hx5, hx7, hx9, hx10, hx11, hx13, hx14, hx15, hq16, hq17, hq18, hq19, hq20, hx21, hx22, hx23, hx24] at h7
                try simp only [hx2, hx3, hx4, hx5, hx7, hx9, hx10, hx11, hx13, hx14, hx15, hq16, hq17, hq18, hq19, hq20, hx21, hx22, hx23, hx24] at h8
                try simp only [hx2, hx3, hx4, hx5, hx7, hx9, hx10, hx11, hx13, hx14, hx15, hq16, hq17, hq18, hq19, hq20, hx21, hx22, hx23, hx24] at h9
                try simp only [hx2, hx3, hx4, hx5, hx7, hx9, hx10, hx11, hx13, hx14, hx15, hq16, hq17, hq18, hq19, hq20, hx21, hx22, hx23, hx24] at h10
                try simp only [hx2, hx3, hx4, hx5, hx7, hx9, hx10, hx11, hx13, hx14, hx15, hq16, hq17, hq18, hq19, hq20, hx21, hx22, hx23, hx24] at h11
                try simp only [hx2, hx3, hx4, hx5, hx7, hx9, hx10, hx11, hx13, hx14, hx15, hq16, hq17, hq18, hq19, hq20, hx21, hx22, hx23, hx24] at h12
                all_goals (first | (simp only [hx2, hx3, hx4, hx5, hx7, hx9, hx10, hx11, hx13, hx14, hx15, hq16, hq17, hq18, hq19, hq20, hx21, hx22, hx23, hx24]; done) | (exfalso; omega) | simp_all)
               ·
                replace h12 := not_eq_false h12
                replace h12 := of_decide_eq_true h12
                refine WC.skipn ?_
                refine WC.seq ?_
                refine Qa ?_
                refine WL.next ?_
                refine WC.ret ?_
                refine fin1' rfl Q0 ?_
                refine RetP.mk hs ?_
                try simp only [hx2, hx3, hx4, hx5, hx7, hx9, hx10, hx11, hx13, hx14, hx15, hq16, hq17, hq18, hq19, hq20, hx21, hx22, hx23, hx24] at h1
                try simp only [hx2, hx3, hx4, hx5, hx7, hx9, hx10, hx11, hx13, hx14, hx15, hq16, hq17, hq18, hq19, hq20, hx21, hx22, hx23, hx24] at h2
                try simp only [hx2, hx3, hx4, hx5, hx7, hx9, hx10, hx11, hx13, hx14, hx15, hq16, hq17, hq18, hq19, hq20, hx21, hx22, hx23, hx24] at h3
                try simp only [hx2, hx3, hx4, hx5, hx7, hx9, hx10, hx11, hx13, hx14, hx15, hq16, hq17, hq18, hq19, hq20, hx21, hx22, hx23, hx24] at h4
                try simp only [hx2, hx3, hx4, hx5, hx7, hx9, hx10, hx11, hx13, hx14, hx15, hq16, hq17, hq18, hq19, hq20, hx21, hx22, hx23, hx24] at h5
                try simp only [hx2, hx3, hx4, hx5, hx7, hx9, hx10, hx11, hx13, hx14, hx15, hq16, hq17, hq18, hq19, hq20, hx21, hx22, hx23, hx24] at h6
                try simp only [hx2, hx3, hx4, hx5, hx7, hx9, hx10, hx11, hx13, hx14, hx15, hq16, hq17, hq18, hq19, hq20, hx21, hx22, hx23, hx24] at h7
                try simp only [hx2, hx3, hx4, hx5, hx7, hx9, hx10, hx11, hx13, hx14, hx15, hq16, hq17, hq18, hq19, hq20, hx21, hx22, hx23, hx24] at h8
                try simp only [hx2, hx3, hx4, hx5, hx7, hx9, hx10, hx11, hx13, hx14, hx15, hq16, hq17, hq18, hq19, hq20, hx21, hx22, hx23, hx24] at h9
                try simp only [hx2, hx3, hx4, hx5, hx7, hx9, hx10, hx11, hx13, hx14, hx15, hq16, hq17, hq18, hq19, hq20, hx21, hx22, hx23, hx24] at h10
                try simp only [hx2, hx3, hx4, hx5, hx7, hx9, hx10, hx11, hx13, hx14, hx15, hq16, hq17, hq18, hq19, hq20, hx21, hx22, hx23, hx24] at h11
                try simp only [hx2, hx3, hx4, hx5, hx7, hx9, hx10, hx11, hx13, hx14, hx15, hq16, hq17, hq18, hq19, hq20, hx21, hx22, hx23, hx24] at h12
                all_goals (first | (simp only [hx2, hx3, hx4, hx5, hx7, hx9, hx10, hx11, hx13, hx14, hx15, hq16, hq17, hq18, hq19, hq20, hx21, hx22, hx23, hx24]; done) | (exfalso; omega) | simp_all)

end Go.Sw
