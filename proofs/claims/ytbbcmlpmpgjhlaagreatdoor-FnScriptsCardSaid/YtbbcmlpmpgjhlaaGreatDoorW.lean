/- Walks: what each function of the program returns, for every input. Printed by gen.py. -/
import Derived.Test.YtbbcmlpmpgjhlaaGreatDoorFx
set_option linter.all false
namespace Go.Sw
open Go Go.RowKit Go.Proofs

theorem c_laws_big (code : (Sl UInt8)) (w : World) (h_code : Ph.ok w code)  : Calls Tryz.prog 4 [Sl.v code].toArray w (RetP w (Bo (decide (1048576 < (code.l.length : Int))))) := by
 refine enterN 6 Tryz.func4 rfl rfl rfl ?_
 have hs := Sat.start w
 refine WC.seq ?_
 refine Qa ?_
 refine WL.next ?_
 refine WC.seq ?_
 refine Qm ?_
 refine WL.p Q0 (Yl.len_sl slu22 Q0) ?_
 refine WL.p Q0 (Yl.gtr Q0 Q0) ?_
 refine Qa ?_
 refine WL.next ?_
 refine WC.ret ?_
 refine fin1' rfl Q0 ?_
 refine RetP.mk hs ?_
 rfl

theorem c_spec_l1New (code : (Sl UInt8)) (w : World) (h_code : Ph.ok w code)  : Calls Tryz.prog 15 [Sl.v code].toArray w (RetN 52 code w) := by
 have hw := h_code.lt
 refine enterN 32 Tryz.func15 rfl rfl rfl ?_
 have hs := Sat.start w
 refine WC.seq ?_
 refine Qa ?_
 refine WL.next ?_
 refine WC.seq ?_
 refine Qm ?_
 refine WL.p Q0 (Yl.len_sl slu22 Q0) ?_
 refine WL.p Q0 (Yl.addw Q0 Q0) ?_
 refine Qa ?_
 refine WL.next ?_
 refine WC.seq' ?_
 refine WC.seq ?_
 refine Qa ?_
 refine WL.next ?_
 refine WC.block ?_
 refine WC.loopC (ι := Nat × Int) (fun ⟨k, g⟩ => code.l.length - k) (fun ⟨k, g⟩ => [(3, I g), (4, I (k : Int))]) (fun _ => []) (fun ⟨k, g⟩ => k ≤ code.l.length) [(0, _), (2, _)] (0, _) (hs) ⟨by rfl, by rfl, trivial⟩ ⟨by rfl, by rfl, trivial⟩ ?_ ?_
 ·
  exact Nat.zero_le _
 clear hs; rintro ⟨k, g⟩ w hJ hs
 simp only [List.nil_append] at hs
 refine WC.seq' ?_
 refine WC.seq ?_
 refine Qm ?_
 refine Qm ?_
 refine WL.p Q0 (Yl.len_sl slu22 Q0) ?_
 refine WL.p Q0 (Yl.lss Q0 Q0) ?_
 refine Qm ?_
 refine WL.split (d := 12) Q0 (fun h1 => ?_) (fun h1 => ?_)
 ·
  replace h1 := of_decide_eq_true h1
  refine WL.run (d := 12) Q0 Q0 ?_
  refine Qm ?_
  refine WL.run (d := 12) Q0 Q0 ?_
  refine WL.p Q0 (Yl.lss Q0 Q0) ?_
  refine WL.p Q0 (Yl.pickT Q0 Q0) ?_
  refine WL.next ?_
  refine WC.condS Q0 (fun h2 => ?_) (fun h2 => ?_)
  ·
   replace h2 := of_decide_eq_true h2
   obtain ⟨d, hd⟩ := exists_get (l := code.l) (k := k) Q7
   refine WC.skipn ?_
   refine WC.seq' ?_
   refine WC.block ?_
   refine WC.region ?_
   refine Qm ?_
   refine WL.p Q0 (Yl.mulw Q0 Q0) ?_
   refine Qm ?_
   refine Qm ?_
   refine WL.p Q0 (Yl.indexAddr slt22 Q0 Q0 (Ph.old h_code hs) Q0 (hd)) ?_
   refine WL.p Q0 (Yl.loadC0 sca5 Q0 (Sl.Ok.at_ (Ph.old h_code hs) (by assumption)).2 Q0) ?_
   refine WL.p Q0 (Yl.byteInt Q6 i64t3 Q0) ?_
   refine WL.p Q0 (Yl.addw Q0 Q0) ?_
   refine WL.p Q0 (Yl.addw Q0 Q0) ?_
   refine WL.p Q0 (Yl.andb Q0 Q0) ?_
   refine Qa ?_
   refine WL.nil ?_
   refine At.blocknormal ?_
   refine At.then_ ?_
   refine WC.region ?_
   refine Qm ?_
   refine WL.p Q0 (Yl.addw Q0 Q0) ?_
   refine Qa ?_
   refine WL.nil ?_
   refine At.roundC (k + 1, _) (hs.only Q2) ⟨by rfl, by rfl, trivial⟩ ⟨by rfl, by exact congrArg (fun z => some (I z)) (wrap_in Q7), trivial⟩ ?_ ?_
   ·
    show code.l.length - (k + 1) < code.l.length - k
    omega
   ·
    show k + 1 ≤ code.l.length
    omega
  ·
   replace h2 := of_decide_eq_false h2
   refine WC.exit ?_
   refine At.thenexit ?_
   refine At.thenexit ?_
   refine At.blockexit ?_
   refine At.then_ ?_
   refine WC.seq ?_
   refine Qm ?_
   refine Qm ?_
   refine WL.p Q0 (Yl.build bt52 Q0 Q4) ?_
   refine WL.r Q0 (Yr.box hs Q0 Q0) ?_
   clear hs; rintro _ w ⟨b1, rfl, hb, hs⟩; clear hb
   refine Qa ?_
   refine WL.next ?_
   refine WC.ret ?_
   refine fin1' rfl Q0 ?_
   refine RetN.mk hs Q1 rfl ?_ ?_
   · omega
   · omega
 ·
  replace h1 := of_decide_eq_false h1
  refine WL.skip (d := 12) Q0 Q0 Q0 Q0 ?_
  refine WL.skip (d := 12) Q0 Q0 Q0 Q0 ?_
  refine WL.p Q0 (Yl.pickF Q0 Q0) ?_
  refine WL.next ?_
  refine WC.condF Q0 ?_
  refine WC.exit ?_
  refine At.thenexit ?_
  refine At.thenexit ?_
  refine At.blockexit ?_
  refine At.then_ ?_
  refine WC.seq ?_
  refine Qm ?_
  refine Qm ?_
  refine WL.p Q0 (Yl.build bt52 Q0 Q4) ?_
  refine WL.r Q0 (Yr.box hs Q0 Q0) ?_
  clear hs; rintro _ w ⟨b2, rfl, hb, hs⟩; clear hb
  refine Qa ?_
  refine WL.next ?_
  refine WC.ret ?_
  refine fin1' rfl Q0 ?_
  refine RetN.mk hs Q1 rfl ?_ ?_
  · omega
  · omega

theorem c_spec_l1Byte (c : Nat) (b_ : Sl UInt8) (w : World)   (h_c : CurAt 52 b_ c w) (hb_c : CurB w b_ c) : Calls Tryz.prog 42 [bp c 0].toArray w (RetD 52 b_ c w (fun v w' => ∃ (x : Int), v = I x ∧ (Ph.ok w' x) ∧ (0 ≤ x ∧ x ≤ 255) ∧ True)) := by
 refine enterN 58 Tryz.func42 rfl rfl rfl ?_
 have hs := Sat.startC h_c
 obtain ⟨i0, g0, hi0, hi1, hs⟩ := hs.curopen
 have hwb := hb_c.ok.lt
 refine WC.seq ?_
 refine Qa ?_
 refine WL.next ?_
 refine WC.seq ?_
 refine Qm ?_
 refine Qm ?_
 refine WL.p Q0 (Yl.nilCheck Q0) ?_
 refine WL.p Q0 (Yl.fieldAddr fa52_2 Q0) ?_
 refine WL.p Q0 (Yl.loadB sca3 Q0 hs Q1 Q0) ?_
 refine WL.p Q0 (Yl.mulw Q0 Q0) ?_
 refine WL.p Q0 (Yl.addw Q0 Q0) ?_
 refine WL.p Q0 (Yl.nilCheck Q0) ?_
 refine WL.p Q0 (Yl.fieldAddr fa52_2 Q0) ?_
 refine WL.s (Yr.storeB hs Q0 Q0 Q0 Q5 Q3 Q0 (by exact szf3)) ?_
 clear hs; rintro _ w hs
 refine WL.next ?_
 refine WC.quietn mixed Q6 hs ?_
 refine WQ.p Q0 (fun w hs => Yl.move Q0) ?_
 refine WQ.p Q0 (fun w hs => Yl.nilCheck Q0) ?_
 refine WQ.p Q0 (fun w hs => Yl.fieldAddr fa52_2 Q0) ?_
 refine WQ.p Q0 (fun w hs => Yl.loadB sca3 Q0 hs Q1 Q0) ?_
 refine WQ.p Q0 (fun w hs => Yl.shr Q0 Q0 (by decide)) ?_
 refine WQ.p Q0 (fun w hs => Yl.move Q0) ?_
 refine WQ.p Q0 (fun w hs => Yl.nilCheck Q0) ?_
 refine WQ.p Q0 (fun w hs => Yl.fieldAddr fa52_2 Q0) ?_
 refine WQ.p Q0 (fun w hs => Yl.loadB sca3 Q0 hs Q1 Q0) ?_
 refine WQ.p Q0 (fun w hs => Yl.shr Q0 Q0 (by decide)) ?_
 refine WQ.p Q0 (fun w hs => Yl.xorb Q0 Q0) ?_
 refine WQ.p Q0 (fun w hs => Yl.andb Q0 Q0) ?_
 refine WQ.p Q0 (fun w hs => Yl.assign Q0) ?_
 refine WQ.next ?_
 clear hs; intro w hs
 refine WC.seq' ?_
 refine WC.quietn mixed Q6 hs ?_
 refine WQ.p Q0 (fun w hs => Yl.move Q0) ?_
 refine WQ.p Q0 (fun w hs => Yl.nilCheck Q0) ?_
 refine WQ.p Q0 (fun w hs => Yl.fieldAddr fa52_1 Q0) ?_
 refine WQ.p Q0 (fun w hs => Yl.loadB sca3 Q0 hs Q1 Q0) ?_
 refine WQ.p Q0 (fun w hs => Yl.move Q0) ?_
 refine WQ.p Q0 (fun w hs => Yl.nilCheck Q0) ?_
 refine WQ.p Q0 (fun w hs => Yl.fieldAddr fa52_0 Q0) ?_
 refine WQ.p Q0 (fun w hs => Yl.loadB sca22 Q0 hs Q1 Q0) ?_
 refine WQ.p Q0 (fun w hs => Yl.len_sl slu22 Q0) ?_
 refine WQ.p Q0 (fun w hs => Yl.lss Q0 Q0) ?_
 refine WQ.next ?_
 clear hs; intro w hs
 refine WC.condS Q0 (fun h1 => ?_) (fun h1 => ?_)
 ·
  replace h1 := of_decide_eq_true h1
  obtain ⟨d9, hd9⟩ := exists_get (l := b_.l) (k := i0.toNat) Q7
  refine WC.quietn mixed Q6 hs ?_
  refine WQ.p Q0 (fun w hs => Yl.move Q0) ?_
  refine WQ.p Q0 (fun w hs => Yl.move Q0) ?_
  refine WQ.p Q0 (fun w hs => Yl.nilCheck Q0) ?_
  refine WQ.p Q0 (fun w hs => Yl.fieldAddr fa52_0 Q0) ?_
  refine WQ.p Q0 (fun w hs => Yl.loadB sca22 Q0 hs Q1 Q0) ?_
  refine WQ.p Q0 (fun w hs => Yl.move Q0) ?_
  refine WQ.p Q0 (fun w hs => Yl.nilCheck Q0) ?_
  refine WQ.p Q0 (fun w hs => Yl.fieldAddr fa52_1 Q0) ?_
  refine WQ.p Q0 (fun w hs => Yl.loadB sca3 Q0 hs Q1 Q0) ?_
  refine WQ.p Q0 (fun w hs => Yl.indexAddr (k := i0.toNat) slt22 Q0 Q0 (Apart.now hb_c hs).ok Q7 (hd9)) ?_
  refine WQ.p Q0 (fun w hs => Yl.loadC0 sca5 Q0 (Sl.Ok.at_ (Apart.now hb_c hs).ok (hd9)).2 Q0) ?_
  refine WQ.p Q0 (fun w hs => Yl.byteInt Q6 i64t3 Q0) ?_
  refine WQ.p Q0 (fun w hs => Yl.addw Q0 Q0) ?_
  refine WQ.p Q0 (fun w hs => Yl.andb Q0 Q0) ?_
  refine WQ.p Q0 (fun w hs => Yl.assign Q0) ?_
  refine WQ.next ?_
  clear hs; intro w hs
  refine WC.region ?_
  refine Qm ?_
  refine Qm ?_
  refine WL.p Q0 (Yl.nilCheck Q0) ?_
  refine WL.p Q0 (Yl.fieldAddr fa52_1 Q0) ?_
  refine WL.p Q0 (Yl.loadB sca3 Q0 hs Q1 Q0) ?_
  refine WL.p Q0 (Yl.add Q0 Q0 Q7) ?_
  refine WL.p Q0 (Yl.nilCheck Q0) ?_
  refine WL.p Q0 (Yl.fieldAddr fa52_1 Q0) ?_
  refine WL.s (Yr.storeB hs Q0 Q0 Q0 Q5 Q3 Q0 (by exact szf3)) ?_
  clear hs; rintro _ w hs
  refine WL.nil ?_
  refine At.then_ ?_
  refine WC.seq ?_
  refine Qm ?_
  refine Qa ?_
  refine WL.next ?_
  refine WC.ret ?_
  refine fin1' rfl Q0 ?_
  replace hs := Sat.curclose (b := b_) (hs.sel (D := [box c _ _]) Q2) rfl Q7 Q7
  try simp only [List.cons_append, List.nil_append] at hs
  refine RetD.mk hs Q1 ?_
  refine ⟨_, rfl, (by first | exact and255_wf _ | trivial | assumption | exact Flat.any (by assumption) | exact ⟨by omega, by omega⟩ | (show WfS _; unfold WfS; omega) | (show WfS _; unfold WfS; simp only [List.length_append, List.length_cons, List.length_nil] at *; omega) | (refine Ph.old ?_ hs; assumption)), ?_, ?_⟩
  ·
   exact and255 _
  ·
   trivial
 ·
  replace h1 := of_decide_eq_false h1
  refine WC.skipn ?_
  refine WC.seq ?_
  refine Qm ?_
  refine Qa ?_
  refine WL.next ?_
  refine WC.ret ?_
  refine fin1' rfl Q0 ?_
  replace hs := Sat.curclose (b := b_) (hs.sel (D := [box c _ _]) Q2) rfl Q7 Q7
  try simp only [List.cons_append, List.nil_append] at hs
  refine RetD.mk hs Q1 ?_
  refine ⟨_, rfl, (by first | exact and255_wf _ | exact (show WfI ((andI (xorI (shrI (IntKind.i64.wrap ((IntKind.i64.wrap (g0 * 6364136223846793005)) + 1442695040888963407)) 33) (shrI (IntKind.i64.wrap ((IntKind.i64.wrap (g0 * 6364136223846793005)) + 1442695040888963407)) 47)) 255)) from ⟨by omega, by omega⟩) | trivial | assumption | exact Flat.any (by assumption) | exact ⟨by omega, by omega⟩ | (show WfS _; unfold WfS; omega) | (show WfS _; unfold WfS; simp only [List.length_append, List.length_cons, List.length_nil] at *; omega) | (refine Ph.old ?_ hs; assumption)), ?_, ?_⟩
  ·
   exact and255 _
  ·
   trivial

theorem c_spec_l1Below (c : Nat) (b_ : Sl UInt8) (n : Int) (w : World)   (h_c : CurAt 52 b_ c w) (hb_c : CurB w b_ c) : Calls Tryz.prog 30 [bp c 0, I n].toArray w (RetD 52 b_ c w (fun v w' => ∃ (x : Int), v = I x ∧ (Ph.ok w' x) ∧ (0 ≤ x ∧ (n ≤ 0 → x = 0) ∧ (0 < n → x < n)) ∧ True)) := by
 have hq : ∀ a : Int, 0 ≤ a → 0 < n → 0 ≤ a.tmod n ∧ a.tmod n < n ∧ a.tmod n ≤ a := fun a h1 h2 => tmod_bd h1 h2
 refine enterN 31 Tryz.func30 rfl rfl rfl ?_
 have hs := Sat.startC h_c
 refine WC.seq ?_
 refine Qa ?_
 refine WL.next ?_
 refine WC.seq' ?_
 refine WC.seq ?_
 refine Qm ?_
 refine WL.p Q0 (Yl.leq Q0 Q0) ?_
 refine WL.next ?_
 refine WC.condS Q0 (fun h1 => ?_) (fun h1 => ?_)
 ·
  replace h1 := of_decide_eq_true h1
  refine WC.seq ?_
  refine Qa ?_
  refine WL.next ?_
  refine WC.ret ?_
  refine At.thenret ?_
  refine fin1' rfl Q0 ?_
  refine RetD.mk hs Q1 ?_
  refine ⟨_, rfl, (by first | exact (show WfI 0 from ⟨by omega, by omega⟩) | trivial | assumption | exact Flat.any (by assumption) | exact ⟨by omega, by omega⟩ | (show WfS _; unfold WfS; omega) | (show WfS _; unfold WfS; simp only [List.length_append, List.length_cons, List.length_nil] at *; omega) | (refine Ph.old ?_ hs; assumption)), ?_, ?_⟩
  ·
   first | exact ⟨by omega, fun h => by omega, fun h => by omega⟩
  ·
   trivial
 ·
  replace h1 := of_decide_eq_false h1
  refine WC.skipn ?_
  refine WC.seq' ?_
  refine WC.seq ?_
  refine Qm ?_
  refine WL.p Q0 (Yl.leq Q0 Q0) ?_
  refine WL.next ?_
  refine WC.condS Q0 (fun h2 => ?_) (fun h2 => ?_)
  ·
   replace h2 := of_decide_eq_true h2
   refine WC.seq ?_
   refine Qm ?_
   refine WL.calld hs (T := 52) (b := b_) (c := c) Q2 Q0 (Yc.func Q0 fn42) (c_spec_l1Byte c b_ _ (hs.cur Q1) (Apart.now hb_c hs)) ?_
   clear hs; intro v w ho hR hs
   obtain ⟨x1, rfl, hokx1, hx1, hf1⟩ := hR
   clear ho hf1
   refine Qm ?_
   refine WL.p Q0 (Yl.remw Q0 Q0 Q7) ?_
   refine Qa ?_
   refine WL.next ?_
   refine WC.ret ?_
   refine At.thenret ?_
   refine fin1' rfl Q0 ?_
   have h9 := hq x1 Q7 Q7
   refine RetD.mk hs Q1 ?_
   refine ⟨_, rfl, (by first | exact (show WfI ((Int.tmod x1 n)) from ⟨by omega, by omega⟩) | trivial | assumption | exact Flat.any (by assumption) | exact ⟨by omega, by omega⟩ | (show WfS _; unfold WfS; omega) | (show WfS _; unfold WfS; simp only [List.length_append, List.length_cons, List.length_nil] at *; omega) | (refine Ph.old ?_ hs; assumption)), ?_, ?_⟩
   ·
    first | exact ⟨by omega, fun h => by omega, fun h => by omega⟩
   ·
    trivial
  ·
   replace h2 := of_decide_eq_false h2
   refine WC.skipn ?_
   refine WC.seq ?_
   refine Qm ?_
   refine WL.calld hs (T := 52) (b := b_) (c := c) Q2 Q0 (Yc.func Q0 fn42) (c_spec_l1Byte c b_ _ (hs.cur Q1) (Apart.now hb_c hs)) ?_
   clear hs; intro v w ho hR hs
   obtain ⟨x2, rfl, hokx2, hx2, hf2⟩ := hR
   clear ho hf2
   refine Qa ?_
   refine WL.next ?_
   refine WC.seq ?_
   refine Qm ?_
   refine WL.calld hs (T := 52) (b := b_) (c := c) Q2 Q0 (Yc.func Q0 fn42) (c_spec_l1Byte c b_ _ (hs.cur Q1) (Apart.now hb_c hs)) ?_
   clear hs; intro v w ho hR hs
   obtain ⟨x3, rfl, hokx3, hx3, hf3⟩ := hR
   clear ho hf3
   refine Qa ?_
   refine WL.next ?_
   refine WC.seq ?_
   refine Qm ?_
   refine WL.calld hs (T := 52) (b := b_) (c := c) Q2 Q0 (Yc.func Q0 fn42) (c_spec_l1Byte c b_ _ (hs.cur Q1) (Apart.now hb_c hs)) ?_
   clear hs; intro v w ho hR hs
   obtain ⟨x4, rfl, hokx4, hx4, hf4⟩ := hR
   clear ho hf4
   refine Qa ?_
   refine WL.next ?_
   refine WC.seq ?_
   refine Qm ?_
   refine WL.p Q0 (Yl.mul Q0 Q0 Q7) ?_
   refine Qm ?_
   refine WL.p Q0 (Yl.mul Q0 Q0 Q7) ?_
   refine WL.p Q0 (Yl.add Q0 Q0 Q7) ?_
   refine Qm ?_
   refine WL.p Q0 (Yl.add Q0 Q0 Q7) ?_
   refine Qm ?_
   refine WL.p Q0 (Yl.remw Q0 Q0 Q7) ?_
   refine Qa ?_
   refine WL.next ?_
   refine WC.ret ?_
   refine fin1' rfl Q0 ?_
   have h9 := hq (((x2 * 65536) + (x3 * 256)) + x4) Q7 Q7
   refine RetD.mk hs Q1 ?_
   refine ⟨_, rfl, (by first | exact (show WfI ((Int.tmod (((x2 * 65536) + (x3 * 256)) + x4) n)) from ⟨by omega, by omega⟩) | trivial | assumption | exact Flat.any (by assumption) | exact ⟨by omega, by omega⟩ | (show WfS _; unfold WfS; omega) | (show WfS _; unfold WfS; simp only [List.length_append, List.length_cons, List.length_nil] at *; omega) | (refine Ph.old ?_ hs; assumption)), ?_, ?_⟩
   ·
    first | exact ⟨by omega, fun h => by omega, fun h => by omega⟩
   ·
    trivial

theorem c_spec_l1Once (c : Nat) (b_ : Sl UInt8) (n : Int) (w : World)   (h_c : CurAt 52 b_ c w) (hb_c : CurB w b_ c) : Calls Tryz.prog 16 [bp c 0, I n].toArray w (RetD 52 b_ c w (fun v w' => ∃ (x : Bool), v = Bo x ∧ (True) ∧ (True) ∧ True)) := by
 refine enterN 9 Tryz.func16 rfl rfl rfl ?_
 have hs := Sat.startC h_c
 refine WC.seq ?_
 refine Qa ?_
 refine WL.next ?_
 refine WC.seq ?_
 refine Qm ?_
 refine Qm ?_
 refine WL.calld hs (T := 52) (b := b_) (c := c) Q2 Q0 (Yc.func Q0 fn30) (c_spec_l1Below c b_ _ _ (hs.cur Q1) (Apart.now hb_c hs)) ?_
 clear hs; intro v w ho hR hs
 obtain ⟨x1, rfl, hokx1, hx1, hf1⟩ := hR
 clear ho hf1
 refine WL.p Q0 (Yl.eqi Q0 Q0) ?_
 refine Qa ?_
 refine WL.next ?_
 refine WC.ret ?_
 refine fin1' rfl Q0 ?_
 refine RetD.mk hs Q1 ?_
 refine ⟨_, rfl, trivial, ?_, ?_⟩
 ·
  trivial
 ·
  trivial

theorem c_spec_l1Str (c : Nat) (b_ : Sl UInt8) (list : (Sl Str)) (w : World) (h_list : Apart w list c) (hne : 0 < list.l.length) (h_c : CurAt 52 b_ c w) (hb_c : CurB w b_ c) : Calls Tryz.prog 17 [bp c 0, Sl.v list].toArray w (RetD 52 b_ c w (fun v w' => ∃ (x : Str), v = S x ∧ (Ph.ok w' x) ∧ (x ∈ list.l) ∧ True)) := by
 have hw := h_list.ok.lt
 refine enterN 12 Tryz.func17 rfl rfl rfl ?_
 have hs := Sat.startC h_c
 refine WC.seq ?_
 refine Qa ?_
 refine WL.next ?_
 refine WC.seq ?_
 refine Qm ?_
 refine Qm ?_
 refine Qm ?_
 refine WL.p Q0 (Yl.len_sl slu36 Q0) ?_
 refine WL.calld hs (T := 52) (b := b_) (c := c) Q2 Q0 (Yc.func Q0 fn30) (c_spec_l1Below c b_ _ _ (hs.cur Q1) (Apart.now hb_c hs)) ?_
 clear hs; intro v w ho hR hs
 obtain ⟨x1, rfl, hokx1, hx1, hf1⟩ := hR
 clear ho hf1
 have hb9 := hx1.2.2 Q7
 obtain ⟨d9, hd9⟩ := exists_get (l := list.l) (k := (x1).toNat) Q7
 refine WL.p Q0 (Yl.indexAddr (k := (x1).toNat) slt36 Q0 Q0 (Apart.now h_list hs).ok Q7 (hd9)) ?_
 refine WL.p Q0 (Yl.loadC0 sca9 Q0 (Sl.Ok.at_ (Apart.now h_list hs).ok (hd9)).2 Q0) ?_
 refine Qa ?_
 refine WL.next ?_
 refine WC.ret ?_
 refine fin1' rfl Q0 ?_
 refine RetD.mk hs Q1 ?_
 refine ⟨_, rfl, (by first | exact (Apart.now h_list hs).ok.elem hd9 | trivial | assumption | exact Flat.any (by assumption) | exact ⟨by omega, by omega⟩ | (show WfS _; unfold WfS; omega) | (show WfS _; unfold WfS; simp only [List.length_append, List.length_cons, List.length_nil] at *; omega) | (refine Ph.old ?_ hs; assumption)), ?_, ?_⟩
 ·
  exact List.mem_of_getElem? hd9
 ·
  trivial

theorem c_spec_l8Text (c : Nat) (b_ : Sl UInt8) (most : Int) (w : World)  (hm : 1 ≤ most ∧ most ≤ 5) (h_c : CurAt 52 b_ c w) (hb_c : CurB w b_ c) : Calls Tryz.prog 18 [bp c 0, I most].toArray w (RetD 52 b_ c w (fun v w' => ∃ (x : Str), v = S x ∧ (Ph.ok w' x) ∧ (x.length ≤ 26 * most.toNat ∧ scriptIs x = true ∧ x ≠ [] ∧ 0 < (scriptLines x).length) ∧ True)) := by
 refine enterN 25 Tryz.func18 rfl rfl rfl ?_
 have hs := Sat.startC h_c
 refine WC.seq ?_
 refine Qa ?_
 refine WL.next ?_
 refine WC.seq ?_
 refine Qa ?_
 refine WL.next ?_
 refine WC.seq' ?_
 refine WC.seq ?_
 refine Qm ?_
 refine Qm ?_
 refine WL.calld hs (T := 52) (b := b_) (c := c) Q2 Q0 (Yc.func Q0 fn30) (c_spec_l1Below c b_ _ _ (hs.cur Q1) (Apart.now hb_c hs)) ?_
 clear hs; intro v w ho hR hs
 obtain ⟨x1, rfl, hokx1, hx1, hf1⟩ := hR
 clear ho hf1
 refine WL.p Q0 (Yl.add Q0 Q0 Q7) ?_
 refine Qa ?_
 refine WL.next ?_
 refine WC.block ?_
 refine WC.loopC (ι := Int × Str) (fun ⟨m, t⟩ => m.toNat) (fun ⟨m, t⟩ => [(5, S t), (6, I m)]) (fun _ => []) (fun ⟨m, t⟩ => 0 ≤ m ∧ m ≤ 1 + x1 ∧ (t.length : Int) ≤ (1 + x1 - m) * 26 ∧ DrawnScript t (1 + x1 - m).toNat) [(0, _), (1, _), (4, _)] (_, []) (hs) ⟨by rfl, by rfl, by rfl, trivial⟩ ⟨by rfl, by rfl, trivial⟩ ?_ ?_
 ·
  refine ⟨by omega, by omega, ?_, ?_⟩
  · simp only [List.length_nil]; omega
  · rw [show (1 + x1 - (1 + x1)).toNat = 0 from by omega]; exact ⟨.inl ⟨rfl, rfl⟩⟩
 clear hs; rintro ⟨m, t⟩ w ⟨hJ1, hJ2, hJ3, hJ4⟩ hs
 simp only [List.nil_append] at hs
 refine WC.seq' ?_
 refine WC.seq ?_
 refine Qm ?_
 refine WL.p Q0 (Yl.gtr Q0 Q0) ?_
 refine WL.next ?_
 refine WC.condS Q0 (fun h1 => ?_) (fun h1 => ?_)
 ·
  replace h1 := of_decide_eq_true h1
  have hwt : t.length ≤ 9223372036854775807 := by omega
  refine WC.skipn ?_
  refine WC.seq' ?_
  refine WC.block ?_
  refine WC.seq' ?_
  refine WC.seq ?_
  refine Qm ?_
  refine WL.p Q0 (Yl.nes Q0 Q0) ?_
  refine WL.next ?_
  refine WC.condS Q0 (fun h2 => ?_) (fun h2 => ?_)
  ·
   replace h2 := not_eq_true h2
   replace h2 := of_decide_eq_false h2
   refine WC.region ?_
   refine Qm ?_
   refine WL.p Q0 (Yl.cat Q0 Q0 (by simp only [List.length_append, List.length_cons, List.length_nil] at *; omega)) ?_
   refine Qa ?_
   refine WL.nil ?_
   refine At.then_ ?_
   refine WC.region ?_
   refine Qm ?_
   refine Qm ?_
   refine WL.r Q0 (Yr.buildSlice hs sll36 Q0 Q0 Q0 Q4 Q0) ?_
   clear hs; rintro _ w ⟨b2, rfl, hb, hs⟩; clear hb
   replace hs := Sat.boxow (l := ([([115, 97, 121, 32, 104, 105] : Str), ([99, 111, 117, 110, 116, 32, 112] : Str), ([99, 111, 117, 110, 116, 32, 115, 99, 114, 105, 112, 116] : Str), ([108, 111, 111, 107, 32, 112] : Str), ([108, 111, 111, 107, 32, 98] : Str), ([97, 100, 100, 32, 98] : Str), ([97, 100, 100, 32, 112] : Str), ([119, 114, 105, 116, 101, 32, 91, 112, 93, 120, 91, 47, 112, 93] : Str), ([119, 114, 105, 116, 101, 32, 91, 105, 109, 103, 32, 115, 114, 99, 61, 108, 111, 103, 111, 93] : Str), ([119, 114, 105, 116, 101, 32, 91, 108, 105, 110, 107, 32, 104, 114, 101, 102, 61, 115, 116, 121, 108, 101, 93] : Str), ([119, 114, 105, 116, 101, 32, 91, 98, 93] : Str)] : List Str)) (hs.sel (D := [box b2 _ _]) Q2) rfl rfl (by decide) (ownL_mk_flat (lit_str Q0))
   try simp only [List.cons_append, List.nil_append] at hs
   refine WL.calld hs (T := 52) (b := b_) (c := c) Q2 Q0 (Yc.func Q0 fn17) (c_spec_l1Str c b_ (⟨[([115, 97, 121, 32, 104, 105] : Str), ([99, 111, 117, 110, 116, 32, 112] : Str), ([99, 111, 117, 110, 116, 32, 115, 99, 114, 105, 112, 116] : Str), ([108, 111, 111, 107, 32, 112] : Str), ([108, 111, 111, 107, 32, 98] : Str), ([97, 100, 100, 32, 98] : Str), ([97, 100, 100, 32, 112] : Str), ([119, 114, 105, 116, 101, 32, 91, 112, 93, 120, 91, 47, 112, 93] : Str), ([119, 114, 105, 116, 101, 32, 91, 105, 109, 103, 32, 115, 114, 99, 61, 108, 111, 103, 111, 93] : Str), ([119, 114, 105, 116, 101, 32, 91, 108, 105, 110, 107, 32, 104, 114, 101, 102, 61, 115, 116, 121, 108, 101, 93] : Str), ([119, 114, 105, 116, 101, 32, 91, 98, 93] : Str)], some ⟨b2, 0, none⟩, 11⟩ : Sl Str) _ (Apart.own (s := (⟨[([115, 97, 121, 32, 104, 105] : Str), ([99, 111, 117, 110, 116, 32, 112] : Str), ([99, 111, 117, 110, 116, 32, 115, 99, 114, 105, 112, 116] : Str), ([108, 111, 111, 107, 32, 112] : Str), ([108, 111, 111, 107, 32, 98] : Str), ([97, 100, 100, 32, 98] : Str), ([97, 100, 100, 32, 112] : Str), ([119, 114, 105, 116, 101, 32, 91, 112, 93, 120, 91, 47, 112, 93] : Str), ([119, 114, 105, 116, 101, 32, 91, 105, 109, 103, 32, 115, 114, 99, 61, 108, 111, 103, 111, 93] : Str), ([119, 114, 105, 116, 101, 32, 91, 108, 105, 110, 107, 32, 104, 114, 101, 102, 61, 115, 116, 121, 108, 101, 93] : Str), ([119, 114, 105, 116, 101, 32, 91, 98, 93] : Str)], some ⟨b2, 0, none⟩, 11⟩ : Sl Str)) (F := [b2]) hs Q2) (by exact Nat.succ_pos _) (hs.cur Q1) (Apart.now hb_c hs)) ?_
   clear hs; intro v w ho hR hs
   obtain ⟨x3, rfl, hokx3, hx3, hf3⟩ := hR
   clear ho hf3
   replace hx3 : x3 ∈ ([([115, 97, 121, 32, 104, 105] : Str), ([99, 111, 117, 110, 116, 32, 112] : Str), ([99, 111, 117, 110, 116, 32, 115, 99, 114, 105, 112, 116] : Str), ([108, 111, 111, 107, 32, 112] : Str), ([108, 111, 111, 107, 32, 98] : Str), ([97, 100, 100, 32, 98] : Str), ([97, 100, 100, 32, 112] : Str), ([119, 114, 105, 116, 101, 32, 91, 112, 93, 120, 91, 47, 112, 93] : Str), ([119, 114, 105, 116, 101, 32, 91, 105, 109, 103, 32, 115, 114, 99, 61, 108, 111, 103, 111, 93] : Str), ([119, 114, 105, 116, 101, 32, 91, 108, 105, 110, 107, 32, 104, 114, 101, 102, 61, 115, 116, 121, 108, 101, 93] : Str), ([119, 114, 105, 116, 101, 32, 91, 98, 93] : Str)] : List Str) := hx3
   have hn3 := mem_len 23 hx3 Q0
   refine WL.p Q0 (Yl.cat Q0 Q0 (by simp only [List.length_append, List.length_cons, List.length_nil] at *; omega)) ?_
   refine Qa ?_
   refine WL.nil ?_
   refine At.blocknormal ?_
   refine At.then_ ?_
   refine WC.region ?_
   refine Qm ?_
   refine WL.p Q0 (Yl.sub_ Q0 Q0 Q7) ?_
   refine Qa ?_
   refine WL.nil ?_
   refine At.roundC (_, _) (hs.only Q2) ⟨by rfl, by rfl, by rfl, trivial⟩ ⟨by rfl, by rfl, trivial⟩ ?_ ?_
   ·
    show (m - 1).toNat < m.toNat
    omega
   ·
    refine ⟨by omega, by omega, ?_, ?_⟩
    · simp only [List.length_append, List.length_cons, List.length_nil] at *; omega
    · rw [show (1 + x1 - (m - 1)).toNat = (1 + x1 - m).toNat + 1 from by omega]; exact hJ4.next (by assumption) (show _ ∈ lines11 from hx3)
  ·
   replace h2 := not_eq_false h2
   replace h2 := of_decide_eq_true h2
   refine WC.skipn ?_
   refine WC.region ?_
   refine Qm ?_
   refine Qm ?_
   refine WL.r Q0 (Yr.buildSlice hs sll36 Q0 Q0 Q0 Q4 Q0) ?_
   clear hs; rintro _ w ⟨b4, rfl, hb, hs⟩; clear hb
   replace hs := Sat.boxow (l := ([([115, 97, 121, 32, 104, 105] : Str), ([99, 111, 117, 110, 116, 32, 112] : Str), ([99, 111, 117, 110, 116, 32, 115, 99, 114, 105, 112, 116] : Str), ([108, 111, 111, 107, 32, 112] : Str), ([108, 111, 111, 107, 32, 98] : Str), ([97, 100, 100, 32, 98] : Str), ([97, 100, 100, 32, 112] : Str), ([119, 114, 105, 116, 101, 32, 91, 112, 93, 120, 91, 47, 112, 93] : Str), ([119, 114, 105, 116, 101, 32, 91, 105, 109, 103, 32, 115, 114, 99, 61, 108, 111, 103, 111, 93] : Str), ([119, 114, 105, 116, 101, 32, 91, 108, 105, 110, 107, 32, 104, 114, 101, 102, 61, 115, 116, 121, 108, 101, 93] : Str), ([119, 114, 105, 116, 101, 32, 91, 98, 93] : Str)] : List Str)) (hs.sel (D := [box b4 _ _]) Q2) rfl rfl (by decide) (ownL_mk_flat (lit_str Q0))
   try simp only [List.cons_append, List.nil_append] at hs
   refine WL.calld hs (T := 52) (b := b_) (c := c) Q2 Q0 (Yc.func Q0 fn17) (c_spec_l1Str c b_ (⟨[([115, 97, 121, 32, 104, 105] : Str), ([99, 111, 117, 110, 116, 32, 112] : Str), ([99, 111, 117, 110, 116, 32, 115, 99, 114, 105, 112, 116] : Str), ([108, 111, 111, 107, 32, 112] : Str), ([108, 111, 111, 107, 32, 98] : Str), ([97, 100, 100, 32, 98] : Str), ([97, 100, 100, 32, 112] : Str), ([119, 114, 105, 116, 101, 32, 91, 112, 93, 120, 91, 47, 112, 93] : Str), ([119, 114, 105, 116, 101, 32, 91, 105, 109, 103, 32, 115, 114, 99, 61, 108, 111, 103, 111, 93] : Str), ([119, 114, 105, 116, 101, 32, 91, 108, 105, 110, 107, 32, 104, 114, 101, 102, 61, 115, 116, 121, 108, 101, 93] : Str), ([119, 114, 105, 116, 101, 32, 91, 98, 93] : Str)], some ⟨b4, 0, none⟩, 11⟩ : Sl Str) _ (Apart.own (s := (⟨[([115, 97, 121, 32, 104, 105] : Str), ([99, 111, 117, 110, 116, 32, 112] : Str), ([99, 111, 117, 110, 116, 32, 115, 99, 114, 105, 112, 116] : Str), ([108, 111, 111, 107, 32, 112] : Str), ([108, 111, 111, 107, 32, 98] : Str), ([97, 100, 100, 32, 98] : Str), ([97, 100, 100, 32, 112] : Str), ([119, 114, 105, 116, 101, 32, 91, 112, 93, 120, 91, 47, 112, 93] : Str), ([119, 114, 105, 116, 101, 32, 91, 105, 109, 103, 32, 115, 114, 99, 61, 108, 111, 103, 111, 93] : Str), ([119, 114, 105, 116, 101, 32, 91, 108, 105, 110, 107, 32, 104, 114, 101, 102, 61, 115, 116, 121, 108, 101, 93] : Str), ([119, 114, 105, 116, 101, 32, 91, 98, 93] : Str)], some ⟨b4, 0, none⟩, 11⟩ : Sl Str)) (F := [b4]) hs Q2) (by exact Nat.succ_pos _) (hs.cur Q1) (Apart.now hb_c hs)) ?_
   clear hs; intro v w ho hR hs
   obtain ⟨x5, rfl, hokx5, hx5, hf5⟩ := hR
   clear ho hf5
   replace hx5 : x5 ∈ ([([115, 97, 121, 32, 104, 105] : Str), ([99, 111, 117, 110, 116, 32, 112] : Str), ([99, 111, 117, 110, 116, 32, 115, 99, 114, 105, 112, 116] : Str), ([108, 111, 111, 107, 32, 112] : Str), ([108, 111, 111, 107, 32, 98] : Str), ([97, 100, 100, 32, 98] : Str), ([97, 100, 100, 32, 112] : Str), ([119, 114, 105, 116, 101, 32, 91, 112, 93, 120, 91, 47, 112, 93] : Str), ([119, 114, 105, 116, 101, 32, 91, 105, 109, 103, 32, 115, 114, 99, 61, 108, 111, 103, 111, 93] : Str), ([119, 114, 105, 116, 101, 32, 91, 108, 105, 110, 107, 32, 104, 114, 101, 102, 61, 115, 116, 121, 108, 101, 93] : Str), ([119, 114, 105, 116, 101, 32, 91, 98, 93] : Str)] : List Str) := hx5
   have hn5 := mem_len 23 hx5 Q0
   refine WL.p Q0 (Yl.cat Q0 Q0 (by simp only [List.length_append, List.length_cons, List.length_nil] at *; omega)) ?_
   refine Qa ?_
   refine WL.nil ?_
   refine At.blocknormal ?_
   refine At.then_ ?_
   refine WC.region ?_
   refine Qm ?_
   refine WL.p Q0 (Yl.sub_ Q0 Q0 Q7) ?_
   refine Qa ?_
   refine WL.nil ?_
   refine At.roundC (_, _) (hs.only Q2) ⟨by rfl, by rfl, by rfl, trivial⟩ ⟨by rfl, by rfl, trivial⟩ ?_ ?_
   ·
    show (m - 1).toNat < m.toNat
    omega
   ·
    refine ⟨by omega, by omega, ?_, ?_⟩
    · simp only [List.length_append, List.length_cons, List.length_nil] at *; omega
    · exact hJ4.one (by assumption) Q7 (show _ ∈ lines11 from hx5)
 ·
  replace h1 := of_decide_eq_false h1
  refine WC.exit ?_
  refine At.thenexit ?_
  refine At.thenexit ?_
  refine At.blockexit ?_
  refine At.then_ ?_
  refine WC.seq ?_
  refine Qm ?_
  refine Qa ?_
  refine WL.next ?_
  refine WC.ret ?_
  refine fin1' rfl Q0 ?_
  refine RetD.mk hs Q1 ?_
  refine ⟨_, rfl, (by first | exact (show WfS t from by unfold WfS; omega) | trivial | assumption | exact Flat.any (by assumption) | exact ⟨by omega, by omega⟩ | (show WfS _; unfold WfS; omega) | (show WfS _; unfold WfS; simp only [List.length_append, List.length_cons, List.length_nil] at *; omega) | (refine Ph.old ?_ hs; assumption)), ?_, ?_⟩
  ·
   have h9 := hJ4.is Q7 Q7
   exact ⟨by omega, h9.1, h9.2.1, by rw [h9.2.2]; omega⟩
  ·
   trivial

theorem c_spec_DrawParseScript (code : (Sl UInt8)) (w : World) (h_code : Ph.ok w code)  : Calls Tryz.prog 5 [Sl.v code].toArray w (Ret w (fun v w' => ∃ (s : Str), v = S s ∧ (Ph.ok w' s) ∧ (s.length ≤ 200) ∧ True)) := by
 refine enterN 13 Tryz.func5 rfl rfl rfl ?_
 have hs := Sat.start w
 refine WC.seq ?_
 refine Qa ?_
 refine WL.next ?_
 refine WC.seq ?_
 refine Qm ?_
 refine WL.calln hs Q0 (Yc.func Q0 fn15) (c_spec_l1New _ _ (Ph.old h_code hs)) ?_
 clear hs; intro c1 w hs
 refine Qa ?_
 refine WL.next ?_
 refine WC.seq' ?_
 refine WC.seq ?_
 refine Qm ?_
 refine WL.calld hs (T := 52) (b := code) (c := c1) Q2 Q0 (Yc.func Q0 fn16) (c_spec_l1Once c1 code _ _ (hs.cur Q1) (Apart.new (by first | assumption) hs Q1)) ?_
 clear hs; intro v w ho hR hs
 obtain ⟨x2, rfl, _, hx2, hf2⟩ := hR
 clear ho hf2
 refine WL.next ?_
 refine WC.condS Q0 (fun h1 => ?_) (fun h1 => ?_)
 ·
  refine WC.seq ?_
  refine Qm ?_
  refine WL.r Q0 (Yr.buildSlice hs sll36 Q0 Q0 Q0 Q4 Q0) ?_
  clear hs; rintro _ w ⟨b3, rfl, hb, hs⟩; clear hb
  replace hs := Sat.boxow (l := ([([] : Str), ([115, 97, 121, 32] : Str), ([115, 97, 121] : Str), ([97, 100, 100] : Str), ([97, 100, 100, 32, 81] : Str), ([99, 111, 117, 110, 116, 32, 112, 59] : Str), ([119, 114, 105, 116, 101, 32] : Str), ([108, 111, 111, 107, 32, 112, 32, 113] : Str), ([115, 97, 121, 32, 97, 59, 115, 97, 121, 32, 98, 59, 115, 97, 121, 32, 99, 59, 115, 97, 121, 32, 100, 59, 115, 97, 121, 32, 101, 59, 115, 97, 121, 32, 102] : Str), ([115, 97, 121, 32, 97, 59, 115, 97, 121, 32, 98, 59, 115, 97, 121, 32, 99, 59, 115, 97, 121, 32, 100, 59, 115, 97, 121, 32, 101, 59, 115, 97, 121, 32, 102, 59, 115, 97, 121, 32, 103] : Str), ([119, 104, 97, 116] : Str), ([115, 97, 121, 32, 97, 97, 97, 97, 97, 97, 97, 97, 97, 97, 97, 97, 97, 97, 97, 97, 97, 97, 97, 97, 97, 97, 97, 97, 97, 97, 97, 97, 97, 97, 97, 97, 97, 97, 97, 97, 97, 97, 97, 97, 97, 97, 97, 97, 97, 97, 97, 97, 97, 97, 97, 97, 97, 97, 97, 97, 97, 97, 97, 97, 97] : Str)] : List Str)) (hs.sel (D := [box b3 _ _]) Q2) rfl rfl (by decide) (ownL_mk_flat (lit_str Q0))
  try simp only [List.cons_append, List.nil_append] at hs
  refine WL.calld hs (T := 52) (b := code) (c := c1) Q2 Q0 (Yc.func Q0 fn17) (c_spec_l1Str c1 code (⟨[([] : Str), ([115, 97, 121, 32] : Str), ([115, 97, 121] : Str), ([97, 100, 100] : Str), ([97, 100, 100, 32, 81] : Str), ([99, 111, 117, 110, 116, 32, 112, 59] : Str), ([119, 114, 105, 116, 101, 32] : Str), ([108, 111, 111, 107, 32, 112, 32, 113] : Str), ([115, 97, 121, 32, 97, 59, 115, 97, 121, 32, 98, 59, 115, 97, 121, 32, 99, 59, 115, 97, 121, 32, 100, 59, 115, 97, 121, 32, 101, 59, 115, 97, 121, 32, 102] : Str), ([115, 97, 121, 32, 97, 59, 115, 97, 121, 32, 98, 59, 115, 97, 121, 32, 99, 59, 115, 97, 121, 32, 100, 59, 115, 97, 121, 32, 101, 59, 115, 97, 121, 32, 102, 59, 115, 97, 121, 32, 103] : Str), ([119, 104, 97, 116] : Str), ([115, 97, 121, 32, 97, 97, 97, 97, 97, 97, 97, 97, 97, 97, 97, 97, 97, 97, 97, 97, 97, 97, 97, 97, 97, 97, 97, 97, 97, 97, 97, 97, 97, 97, 97, 97, 97, 97, 97, 97, 97, 97, 97, 97, 97, 97, 97, 97, 97, 97, 97, 97, 97, 97, 97, 97, 97, 97, 97, 97, 97, 97, 97, 97, 97] : Str)], some ⟨b3, 0, none⟩, 12⟩ : Sl Str) _ (Apart.own (s := (⟨[([] : Str), ([115, 97, 121, 32] : Str), ([115, 97, 121] : Str), ([97, 100, 100] : Str), ([97, 100, 100, 32, 81] : Str), ([99, 111, 117, 110, 116, 32, 112, 59] : Str), ([119, 114, 105, 116, 101, 32] : Str), ([108, 111, 111, 107, 32, 112, 32, 113] : Str), ([115, 97, 121, 32, 97, 59, 115, 97, 121, 32, 98, 59, 115, 97, 121, 32, 99, 59, 115, 97, 121, 32, 100, 59, 115, 97, 121, 32, 101, 59, 115, 97, 121, 32, 102] : Str), ([115, 97, 121, 32, 97, 59, 115, 97, 121, 32, 98, 59, 115, 97, 121, 32, 99, 59, 115, 97, 121, 32, 100, 59, 115, 97, 121, 32, 101, 59, 115, 97, 121, 32, 102, 59, 115, 97, 121, 32, 103] : Str), ([119, 104, 97, 116] : Str), ([115, 97, 121, 32, 97, 97, 97, 97, 97, 97, 97, 97, 97, 97, 97, 97, 97, 97, 97, 97, 97, 97, 97, 97, 97, 97, 97, 97, 97, 97, 97, 97, 97, 97, 97, 97, 97, 97, 97, 97, 97, 97, 97, 97, 97, 97, 97, 97, 97, 97, 97, 97, 97, 97, 97, 97, 97, 97, 97, 97, 97, 97, 97, 97, 97] : Str)], some ⟨b3, 0, none⟩, 12⟩ : Sl Str)) (F := [b3]) hs Q2) (by exact Nat.succ_pos _) (hs.cur Q1) (Apart.new (by first | assumption) hs Q1)) ?_
  clear hs; intro v w ho hR hs
  obtain ⟨x4, rfl, hokx4, hx4, hf4⟩ := hR
  clear ho hf4
  replace hx4 : x4 ∈ ([([] : Str), ([115, 97, 121, 32] : Str), ([115, 97, 121] : Str), ([97, 100, 100] : Str), ([97, 100, 100, 32, 81] : Str), ([99, 111, 117, 110, 116, 32, 112, 59] : Str), ([119, 114, 105, 116, 101, 32] : Str), ([108, 111, 111, 107, 32, 112, 32, 113] : Str), ([115, 97, 121, 32, 97, 59, 115, 97, 121, 32, 98, 59, 115, 97, 121, 32, 99, 59, 115, 97, 121, 32, 100, 59, 115, 97, 121, 32, 101, 59, 115, 97, 121, 32, 102] : Str), ([115, 97, 121, 32, 97, 59, 115, 97, 121, 32, 98, 59, 115, 97, 121, 32, 99, 59, 115, 97, 121, 32, 100, 59, 115, 97, 121, 32, 101, 59, 115, 97, 121, 32, 102, 59, 115, 97, 121, 32, 103] : Str), ([119, 104, 97, 116] : Str), ([115, 97, 121, 32, 97, 97, 97, 97, 97, 97, 97, 97, 97, 97, 97, 97, 97, 97, 97, 97, 97, 97, 97, 97, 97, 97, 97, 97, 97, 97, 97, 97, 97, 97, 97, 97, 97, 97, 97, 97, 97, 97, 97, 97, 97, 97, 97, 97, 97, 97, 97, 97, 97, 97, 97, 97, 97, 97, 97, 97, 97, 97, 97, 97, 97] : Str)] : List Str) := hx4
  have hn4 := mem_len 65 hx4 Q0
  refine Qa ?_
  refine WL.next ?_
  refine WC.ret ?_
  refine At.thenret ?_
  refine fin1' rfl Q0 ?_
  refine Ret.mk hs ?_
  refine ⟨_, rfl, (by first | exact (Flat.any hokx4) | trivial | assumption | exact Flat.any (by assumption) | exact ⟨by omega, by omega⟩ | (show WfS _; unfold WfS; omega) | (show WfS _; unfold WfS; simp only [List.length_append, List.length_cons, List.length_nil] at *; omega) | (refine Ph.old ?_ hs; assumption)), ?_, ?_⟩
  ·
   repeat' apply And.intro
   all_goals (try dsimp only)
   all_goals first | trivial | assumption | omega | ((try simp only [List.length_append, List.length_cons, List.length_nil, lsz_app, lsz_one, lsz_cons, lsz_nil, TAddr.size, TResponse.size, TRequest.size, TPolicy.size, TEntry.size, TCache.size, strsz, TLine.size, TSent.size, TServer.size, TFile.size, List.map_append, List.map_cons, List.map_nil, PServer.lg, PPolicy.lg, PCache.lg] at *); first | omega | assumption)
  ·
   trivial
 ·
  refine WC.skipn ?_
  refine WC.seq ?_
  refine Qm ?_
  refine WL.calld hs (T := 52) (b := code) (c := c1) Q2 Q0 (Yc.func Q0 fn18) (c_spec_l8Text c1 code _ _ Q10 (hs.cur Q1) (Apart.new (by first | assumption) hs Q1)) ?_
  clear hs; intro v w ho hR hs
  obtain ⟨x5, rfl, hokx5, hx5, hf5⟩ := hR
  clear ho hf5
  refine Qa ?_
  refine WL.next ?_
  refine WC.ret ?_
  refine fin1' rfl Q0 ?_
  refine Ret.mk hs ?_
  refine ⟨_, rfl, (by first | exact (Flat.any hokx5) | trivial | assumption | exact Flat.any (by assumption) | exact ⟨by omega, by omega⟩ | (show WfS _; unfold WfS; omega) | (show WfS _; unfold WfS; simp only [List.length_append, List.length_cons, List.length_nil] at *; omega) | (refine Ph.old ?_ hs; assumption)), ?_, ?_⟩
  ·
   repeat' apply And.intro
   all_goals (try dsimp only)
   all_goals first | trivial | assumption | omega | ((try simp only [List.length_append, List.length_cons, List.length_nil, lsz_app, lsz_one, lsz_cons, lsz_nil, TAddr.size, TResponse.size, TRequest.size, TPolicy.size, TEntry.size, TCache.size, strsz, TLine.size, TSent.size, TServer.size, TFile.size, List.map_append, List.map_cons, List.map_nil, PServer.lg, PPolicy.lg, PCache.lg] at *); first | omega | assumption)
  ·
   trivial

theorem c_strings_Split (s : Str) (sep : Str) (w : World)  (h1 : s.length ≤ 2097152) (h2 : sep = [sep.headD 0]) (hm_ : ∃ m, w.cell? ⟨0, 0, none⟩ = some (.int .i64 m)) : Calls Tryz.prog 19 [S s, S sep].toArray w (Ret w (fun v w' => ∃ x : Sl Str, v = x.v ∧ x.l = splitC (sep.headD 0) s ∧ Fresh w x w')) := by
 rw [h2]; exact split_calls Tryz.strings_Split s (sep.headD 0) w h1 hm_

theorem c_impl_InRange (n : Int) (low : Int) (high : Int) (w : World)   : Calls Tryz.prog 35 [I n, I low, I high].toArray w (RetP w (Bo (inR n low high))) := by
 refine enterN 15 Tryz.func35 rfl rfl rfl ?_
 have hs := Sat.start w
 refine WC.seq ?_
 refine Qa ?_
 refine WL.next ?_
 refine WC.seq ?_
 refine Qm ?_
 refine Qm ?_
 refine WL.p Q0 (Yl.leq Q0 Q0) ?_
 refine Qm ?_
 refine WL.split (d := 10) Q0 (fun h1 => ?_) (fun h1 => ?_)
 ·
  replace h1 := of_decide_eq_true h1
  refine WL.run (d := 10) Q0 Q0 ?_
  refine Qm ?_
  refine WL.run (d := 10) Q0 Q0 ?_
  refine Qm ?_
  refine WL.run (d := 10) Q0 Q0 ?_
  refine WL.p Q0 (Yl.leq Q0 Q0) ?_
  refine WL.p Q0 (Yl.pickT Q0 Q0) ?_
  refine Qa ?_
  refine WL.next ?_
  refine WC.ret ?_
  refine fin1' rfl Q0 ?_
  refine RetP.mk hs ?_
  simp [inR, h1]
 ·
  replace h1 := of_decide_eq_false h1
  refine WL.skip (d := 10) Q0 Q0 Q0 Q0 ?_
  refine WL.skip (d := 10) Q0 Q0 Q0 Q0 ?_
  refine WL.skip (d := 10) Q0 Q0 Q0 Q0 ?_
  refine WL.p Q0 (Yl.pickF Q0 Q0) ?_
  refine Qa ?_
  refine WL.next ?_
  refine WC.ret ?_
  refine fin1' rfl Q0 ?_
  refine RetP.mk hs ?_
  rw [inR_false.2 Q7]

theorem c_impl_opWord (op : Int) (w : World)   : Calls Tryz.prog 23 [I op].toArray w (RetP w (S (opWord op))) := by
 refine enterN 11 Tryz.func23 rfl rfl rfl ?_
 have hs := Sat.start w
 refine WC.seq ?_
 refine Qa ?_
 refine WL.next ?_
 refine WC.seq' ?_
 refine WC.seq ?_
 refine Qm ?_
 refine WL.callp hs Q0 (Yc.func Q0 fn35) (c_impl_InRange _ _ _ _) ?_
 clear hs; intro w hs
 refine WL.p Q0 (Yl.not Q0) ?_
 refine WL.next ?_
 refine WC.condS Q0 (fun h1 => ?_) (fun h1 => ?_)
 ·
  replace h1 := not_eq_true h1
  replace h1 := inR_false.1 h1
  refine WC.seq ?_
  refine Qa ?_
  refine WL.next ?_
  refine WC.ret ?_
  refine At.thenret ?_
  refine fin1' rfl Q0 ?_
  refine RetP.mk hs ?_
  rw [opWord_out Q7]
 ·
  replace h1 := not_eq_false h1
  replace h1 := inR_true.1 h1
  refine WC.skipn ?_
  refine WC.seq ?_
  refine WL.r Q0 (Yr.buildSlice hs sll36 Q0 Q0 Q0 Q4 Q0) ?_
  clear hs; rintro _ w ⟨b1, rfl, hb, hs⟩; clear hb
  refine Qm ?_
  refine WL.p Q0 (Yl.sub_ Q0 Q0 Q7) ?_
  refine WL.p Q0 (Yl.indexB (i := (op - 1).toNat) slt36 Q0 Q0 (by first | rfl | omega) (by first | decide | omega)) ?_
  refine WL.p Q0 (Yl.loadB sca9 Q0 hs Q1 (show _ = some (S (opWord op)) from by rcases (by omega : op = 1 ∨ op = 2 ∨ op = 3 ∨ op = 4 ∨ op = 5) with rfl | rfl | rfl | rfl | rfl <;> rfl)) ?_
  refine Qa ?_
  refine WL.next ?_
  refine WC.ret ?_
  refine fin1' rfl Q0 ?_
  refine RetP.mk hs ?_
  rfl

theorem c_strings_Cut (s : Str) (sep : Str) (w : World)  (h1 : s.length ≤ 2097152) (h2 : sep = [sep.headD 0]) (hm_ : ∃ m, w.cell? ⟨0, 0, none⟩ = some (.int .i64 m)) : Calls Tryz.prog 32 [S s, S sep].toArray w (RetP w (.tuple #[S (cutC (sep.headD 0) s).1, S (cutC (sep.headD 0) s).2.1, Bo (cutC (sep.headD 0) s).2.2])) := by
 rw [h2]; exact cut_calls Tryz.strings_Cut s (sep.headD 0) w h1 hm_

theorem c_impl_IsName (s : Str) (w : World) (h_s : Ph.ok w s)  : Calls Tryz.prog 33 [S s].toArray w (RetP w (Bo (isName s))) := by
 have hw : s.length ≤ 9223372036854775807 := h_s
 refine enterN 23 Tryz.func33 rfl rfl rfl ?_
 have hs := Sat.start w
 refine WC.seq ?_
 refine Qa ?_
 refine WL.next ?_
 refine WC.seq' ?_
 refine WC.seq ?_
 refine Qa ?_
 refine WL.next ?_
 refine WC.block ?_
 refine WC.loopC (ι := Nat) (fun k => s.length - k) (fun k => [(3, I (k : Int))]) (fun _ => []) (fun k => s.all lower = (s.drop k).all lower) [(0, _)] 0 (hs) ⟨by rfl, trivial⟩ ⟨by rfl, trivial⟩ ?_ ?_
 ·
  simp
 clear hs; rintro k w hJ hs
 simp only [List.nil_append] at hs
 refine WC.seq' ?_
 refine WC.seq ?_
 refine Qm ?_
 refine Qm ?_
 refine WL.p Q0 (Yl.len_str str9 Q0) ?_
 refine WL.p Q0 (Yl.lss Q0 Q0) ?_
 refine WL.next ?_
 refine WC.condS Q0 (fun h1 => ?_) (fun h1 => ?_)
 ·
  replace h1 := of_decide_eq_true h1
  obtain ⟨d, hd⟩ := exists_get (l := s) (k := k) Q7
  rw [drop_cons hd] at hJ
  refine WC.skipn ?_
  refine WC.seq' ?_
  refine WC.block ?_
  refine WC.seq ?_
  refine Qm ?_
  refine Qm ?_
  refine WL.p Q0 (Yl.index str9 Q0 Q0 Q0 (by first | assumption | exact List.getElem?_eq_getElem Q7)) ?_
  refine WL.p Q0 (Yl.lss Q0 Q0) ?_
  refine Qm ?_
  refine WL.split (d := 14) Q0 (fun h2 => ?_) (fun h2 => ?_)
  ·
   replace h2 := of_decide_eq_true h2
   refine WL.skip (d := 14) Q0 Q0 Q0 Q0 ?_
   refine WL.skip (d := 14) Q0 Q0 Q0 Q0 ?_
   refine WL.skip (d := 14) Q0 Q0 Q0 Q0 ?_
   refine WL.skip (d := 14) Q0 Q0 Q0 Q0 ?_
   refine WL.p Q0 (Yl.pickT Q0 Q0) ?_
   refine WL.next ?_
   refine WC.condT Q0 ?_
   refine WC.seq ?_
   refine Qa ?_
   refine WL.next ?_
   refine WC.ret ?_
   refine At.blockret ?_
   refine At.thenret ?_
   refine At.thenret ?_
   refine At.blockret ?_
   refine At.thenret ?_
   refine fin1' rfl Q0 ?_
   refine RetP.mk hs ?_
   first
    | (simp [isName, hJ, lower]; done)
    | (simp [isName, hJ, lower]; omega)
    | simp_all [isName, hJ, lower]
  ·
   replace h2 := of_decide_eq_false h2
   refine WL.run (d := 14) Q0 Q0 ?_
   refine Qm ?_
   refine WL.run (d := 14) Q0 Q0 ?_
   refine Qm ?_
   refine WL.run (d := 14) Q0 Q0 ?_
   refine WL.p Q0 (Yl.index str9 Q0 Q0 Q0 (by first | assumption | exact List.getElem?_eq_getElem Q7)) ?_
   refine WL.run (d := 14) Q0 Q0 ?_
   refine WL.p Q0 (Yl.gtr Q0 Q0) ?_
   refine WL.p Q0 (Yl.pickF Q0 Q0) ?_
   refine WL.next ?_
   refine WC.condS Q0 (fun h3 => ?_) (fun h3 => ?_)
   ·
    replace h3 := of_decide_eq_true h3
    refine WC.seq ?_
    refine Qa ?_
    refine WL.next ?_
    refine WC.ret ?_
    refine At.blockret ?_
    refine At.thenret ?_
    refine At.thenret ?_
    refine At.blockret ?_
    refine At.thenret ?_
    refine fin1' rfl Q0 ?_
    refine RetP.mk hs ?_
    first
     | (simp [isName, hJ, lower]; done)
     | (simp [isName, hJ, lower]; omega)
     | simp_all [isName, hJ, lower]
   ·
    replace h3 := of_decide_eq_false h3
    refine WC.skip ?_
    refine At.blocknormal ?_
    refine At.then_ ?_
    refine WC.region ?_
    refine Qm ?_
    refine WL.p Q0 (Yl.add Q0 Q0 Q7) ?_
    refine Qa ?_
    refine WL.nil ?_
    refine At.roundC (k + 1) (hs.only Q2) ⟨by rfl, trivial⟩ ⟨by rfl, trivial⟩ ?_ ?_
    ·
     omega
    ·
     rw [hJ]; simp [lower]; omega
 ·
  replace h1 := of_decide_eq_false h1
  rw [drop_out (l := s) Q7] at hJ
  refine WC.exit ?_
  refine At.thenexit ?_
  refine At.thenexit ?_
  refine At.blockexit ?_
  refine At.then_ ?_
  refine WC.seq ?_
  refine Qm ?_
  refine WL.p Q0 (Yl.len_str str9 Q0) ?_
  refine WL.callp hs Q0 (Yc.func Q0 fn35) (c_impl_InRange _ _ _ _) ?_
  clear hs; intro w hs
  refine Qa ?_
  refine WL.next ?_
  refine WC.ret ?_
  refine fin1' rfl Q0 ?_
  refine RetP.mk hs ?_
  first
   | (simp [isName, hJ, lower]; done)
   | (simp [isName, hJ, lower]; omega)
   | simp_all [isName, hJ, lower]

theorem c_impl_parseLine (s : Str) (w : World)  (hb : s.length ≤ 2097152) (hm_ : ∃ m, w.cell? ⟨0, 0, none⟩ = some (.int .i64 m)) : Calls Tryz.prog 20 [S s].toArray w (RetP w (.tuple #[.agg (Ph.enc (implLine s)).toArray, Bo (lineIs s)])) := by
 refine enterN 53 Tryz.func20 rfl rfl rfl ?_
 have hs := Sat.start w
 refine WC.seq ?_
 refine WL.r Q0 (Yr.alloc hs zt40) ?_
 clear hs; rintro _ w ⟨b1, rfl, hb, hs⟩; clear hb
 refine Qa ?_
 refine WL.next ?_
 refine WC.seq ?_
 refine Qm ?_
 refine WL.callp hs Q0 (Yc.func Q0 fn32) (c_strings_Cut _ _ _ Q10 Q0 (by first | assumption | exact Sat.cellm hs (by assumption))) ?_
 clear hs; intro w hs
 refine Qm ?_
 refine WL.p Q0 (Yl.extract Q0 Q0) ?_
 refine WL.p Q0 (Yl.extract Q0 Q0) ?_
 refine WL.p Q0 (Yl.extract Q0 Q0) ?_
 refine Qa ?_
 refine Qa ?_
 refine Qa ?_
 refine WL.next ?_
 refine WC.seq' ?_
 refine WC.seq ?_
 refine Qa ?_
 refine WL.next ?_
 refine WC.block ?_
 refine WC.loopC (ι := Nat) (fun k => 6 - k) (fun k => [(7, I (k : Int))]) (fun k => [box b1 40 [.int .i64 0, .string ⟨#[]⟩]]) (fun k => 1 ≤ k ∧ k ≤ 6 ∧ ∀ j : Int, 1 ≤ j → j < k → ¬ opWord j = (cutC 32 s).1) [(0, _), (2, _), (4, _), (5, _), (6, _)] 1 (hs.sel (D := [box b1 40 _]) Q2) ⟨by rfl, by rfl, by rfl, by rfl, by rfl, trivial⟩ ⟨by rfl, trivial⟩ ?_ ?_
 ·
  exact ⟨Nat.le_refl _, by omega, fun j a b => by omega⟩
 clear hs; rintro k w ⟨hJ1, hJ2, hJ3⟩ hs
 simp only [List.cons_append, List.nil_append] at hs
 refine WC.seq' ?_
 refine WC.seq ?_
 refine Qm ?_
 refine WL.p Q0 (Yl.leq Q0 Q0) ?_
 refine WL.next ?_
 refine WC.condS Q0 (fun h1 => ?_) (fun h1 => ?_)
 ·
  replace h1 := of_decide_eq_true h1

  refine WC.skipn ?_
  refine WC.seq' ?_
  refine WC.block ?_
  refine WC.seq' ?_
  refine WC.seq ?_
  refine Qm ?_
  refine WL.callp hs Q0 (Yc.func Q0 fn23) (c_impl_opWord _ _) ?_
  clear hs; intro w hs
  refine Qm ?_
  refine WL.p Q0 (Yl.nes Q0 Q0) ?_
  refine WL.next ?_
  refine WC.condS Q0 (fun h2 => ?_) (fun h2 => ?_)
  ·
   replace h2 := not_eq_true h2
   replace h2 := of_decide_eq_false h2
   refine WC.exit ?_
   refine At.thenexit ?_
   refine At.blockexit ?_
   refine At.then_ ?_
   refine WC.region ?_
   refine Qm ?_
   refine WL.p Q0 (Yl.add Q0 Q0 Q7) ?_
   refine Qa ?_
   refine WL.nil ?_
   refine At.roundC (k + 1) (hs.only Q2) ⟨by rfl, by rfl, by rfl, by rfl, by rfl, trivial⟩ ⟨by rfl, trivial⟩ ?_ ?_
   ·
    show 6 - (k + 1) < 6 - k
    omega
   ·
    refine ⟨by omega, by omega, fun j a b => ?_⟩
    by_cases hjk : j = (k : Int)
    · subst hjk; assumption
    · exact hJ3 j a Q7
  ·
   replace h2 := not_eq_false h2
   replace h2 := of_decide_eq_true h2
   refine WC.skipn ?_
   refine WC.seq ?_
   refine Qm ?_
   refine WL.p Q0 (Yl.eqi Q0 Q0) ?_
   refine Qm ?_
   refine WL.split (d := 25) Q0 (fun h3 => ?_) (fun h3 => ?_)
   ·
    replace h3 := of_decide_eq_true h3
    refine WL.skip (d := 25) Q0 Q0 Q0 Q0 ?_
    refine WL.skip (d := 25) Q0 Q0 Q0 Q0 ?_
    refine WL.p Q0 (Yl.pickT Q0 Q0) ?_
    refine Qa ?_
    refine WL.next ?_
    refine WC.seq' ?_
    refine WC.seq ?_
    refine Qm ?_
    refine WL.p Q0 (Yl.not Q0) ?_
    refine Qm ?_
    refine WL.split (d := 31) Q0 (fun h4 => ?_) (fun h4 => ?_)
    ·
     replace h4 := not_eq_true h4
     refine WL.skip (d := 31) Q0 Q0 Q0 Q0 ?_
     refine WL.skip (d := 31) Q0 Q0 Q0 Q0 ?_
     refine WL.skipU (d := 33) Q0 Q0 Q0 ?_
     refine WL.skipU (d := 33) Q0 Q0 Q0 ?_
     refine WL.skipU (d := 33) Q0 Q0 Q0 ?_
     refine WL.skip (d := 31) Q0 Q0 Q0 Q0 ?_
     refine WL.p Q0 (Yl.pickT Q0 Q0) ?_
     refine Qm ?_
     refine WL.skip (d := 39) Q0 Q0 Q0 Q0 ?_
     refine WL.skip (d := 39) Q0 Q0 Q0 Q0 ?_
     refine WL.skip (d := 39) Q0 Q0 Q0 Q0 ?_
     refine WL.skipU (d := 42) Q0 Q0 Q0 ?_
     refine WL.skipU (d := 42) Q0 Q0 Q0 ?_
     refine WL.skipU (d := 42) Q0 Q0 Q0 ?_
     refine WL.skip (d := 39) Q0 Q0 Q0 Q0 ?_
     refine WL.p Q0 (Yl.pickT Q0 Q0) ?_
     refine WL.next ?_
     refine WC.condT Q0 ?_
     refine WC.seq ?_
     refine WL.p Q0 (Yl.build bt40 Q0 Q4) ?_
     refine WL.s (Yr.storeB hs Q0 Q0 Q0 Q5 Q3 Q0 (by exact szf40)) ?_
     clear hs; rintro _ w hs
     refine Qa ?_
     refine WL.next ?_
     refine WC.ret ?_
     refine At.thenret ?_
     refine At.blockret ?_
     refine At.thenret ?_
     refine At.thenret ?_
     refine At.blockret ?_
     refine At.thenret ?_
     refine fin2c rfl agg40 Q0 Q0 hs Q1 Q0 ?_
     refine RetP.mk hs ?_
     obtain ⟨L1, L2⟩ := line_hit (s := s) (i := (k : Int)) Q7 Q7 h2 hJ3
     clear hs
     cases hl : lineIs s with
     | false =>
      simp only [implLine, hl]
      first
       | rfl
       | (exfalso
          cases hf : (cutC 32 s).2.2 with
          | false => simp_all
          | true =>
            have L3 := L1 hf
            clear L1 L2 hJ3 h2
            simp_all [lineGood]
            try omega)
     | true =>
      cases hf : (cutC 32 s).2.2 with
      | false => rw [L2 hf] at hl; cases hl
      | true =>
       have L3 := L1 hf
       first
        | (simp only [implLine, hl, L3.1]; rfl)
        | (exfalso
           clear L1 L2 hJ3 h2
           rw [L3.2] at hl
           simp_all [lineGood]
           try omega)
    ·
     replace h4 := not_eq_false h4
     refine WL.run (d := 31) Q0 Q0 ?_
     refine Qm ?_
     refine WL.run (d := 31) Q0 Q0 ?_
     refine Qm ?_
     refine WL.run (d := 33) Q0 Q0 ?_
     refine Qm ?_
     refine WL.run (d := 33) Q0 Q0 ?_
     refine WL.p Q0 (Yl.len_str str9 Q0) ?_
     refine WL.run (d := 33) Q0 Q0 ?_
     refine WL.p Q0 (Yl.gtr Q0 Q0) ?_
     refine WL.run (d := 31) Q0 Q0 ?_
     refine WL.p Q0 (Yl.pickT Q0 Q0) ?_
     refine WL.p Q0 (Yl.pickF Q0 Q0) ?_
     refine Qm ?_
     refine WL.split (d := 39) Q0 (fun h5 => ?_) (fun h5 => ?_)
     ·
      replace h5 := of_decide_eq_true h5
      refine WL.skip (d := 39) Q0 Q0 Q0 Q0 ?_
      refine WL.skip (d := 39) Q0 Q0 Q0 Q0 ?_
      refine WL.skip (d := 39) Q0 Q0 Q0 Q0 ?_
      refine WL.skipU (d := 42) Q0 Q0 Q0 ?_
      refine WL.skipU (d := 42) Q0 Q0 Q0 ?_
      refine WL.skipU (d := 42) Q0 Q0 Q0 ?_
      refine WL.skip (d := 39) Q0 Q0 Q0 Q0 ?_
      refine WL.p Q0 (Yl.pickT Q0 Q0) ?_
      refine WL.next ?_
      refine WC.condT Q0 ?_
      refine WC.seq ?_
      refine WL.p Q0 (Yl.build bt40 Q0 Q4) ?_
      refine WL.s (Yr.storeB hs Q0 Q0 Q0 Q5 Q3 Q0 (by exact szf40)) ?_
      clear hs; rintro _ w hs
      refine Qa ?_
      refine WL.next ?_
      refine WC.ret ?_
      refine At.thenret ?_
      refine At.blockret ?_
      refine At.thenret ?_
      refine At.thenret ?_
      refine At.blockret ?_
      refine At.thenret ?_
      refine fin2c rfl agg40 Q0 Q0 hs Q1 Q0 ?_
      refine RetP.mk hs ?_
      obtain ⟨L1, L2⟩ := line_hit (s := s) (i := (k : Int)) Q7 Q7 h2 hJ3
      clear hs
      cases hl : lineIs s with
      | false =>
       simp only [implLine, hl]
       first
        | rfl
        | (exfalso
           cases hf : (cutC 32 s).2.2 with
           | false => simp_all
           | true =>
             have L3 := L1 hf
             clear L1 L2 hJ3 h2
             simp_all [lineGood]
             try omega)
      | true =>
       cases hf : (cutC 32 s).2.2 with
       | false => rw [L2 hf] at hl; cases hl
       | true =>
        have L3 := L1 hf
        first
         | (simp only [implLine, hl, L3.1]; rfl)
         | (exfalso
            clear L1 L2 hJ3 h2
            rw [L3.2] at hl
            simp_all [lineGood]
            try omega)
     ·
      replace h5 := of_decide_eq_false h5
      refine WL.run (d := 39) Q0 Q0 ?_
      refine Qm ?_
      refine WL.run (d := 39) Q0 Q0 ?_
      refine WL.p Q0 (Yl.not Q0) ?_
      refine WL.run (d := 39) Q0 Q0 ?_
      refine Qm ?_
      refine WL.skip (d := 42) Q0 Q0 Q0 Q0 ?_
      refine WL.skip (d := 42) Q0 Q0 Q0 Q0 ?_
      refine WL.skip (d := 42) Q0 Q0 Q0 Q0 ?_
      refine WL.run (d := 39) Q0 Q0 ?_
      refine WL.p Q0 (Yl.pickF Q0 Q0) ?_
      refine WL.p Q0 (Yl.pickF Q0 Q0) ?_
      refine WL.next ?_
      refine WC.condF Q0 ?_
      refine WC.skipn ?_
      refine WC.seq ?_
      refine Qm ?_
      refine Qm ?_
      refine WL.p Q0 (Yl.build bt40 Q0 Q4) ?_
      refine WL.s (Yr.storeB hs Q0 Q0 Q0 Q5 Q3 Q0 (by exact szf40)) ?_
      clear hs; rintro _ w hs
      refine Qa ?_
      refine WL.next ?_
      refine WC.ret ?_
      refine At.blockret ?_
      refine At.thenret ?_
      refine At.thenret ?_
      refine At.blockret ?_
      refine At.thenret ?_
      refine fin2c rfl agg40 Q0 Q0 hs Q1 Q0 ?_
      refine RetP.mk hs ?_
      obtain ⟨L1, L2⟩ := line_hit (s := s) (i := (k : Int)) Q7 Q7 h2 hJ3
      clear hs
      cases hl : lineIs s with
      | false =>
       simp only [implLine, hl]
       first
        | rfl
        | (exfalso
           cases hf : (cutC 32 s).2.2 with
           | false => simp_all
           | true =>
             have L3 := L1 hf
             clear L1 L2 hJ3 h2
             simp_all [lineGood]
             try omega)
      | true =>
       cases hf : (cutC 32 s).2.2 with
       | false => rw [L2 hf] at hl; cases hl
       | true =>
        have L3 := L1 hf
        first
         | (simp only [implLine, hl, L3.1]; rfl)
         | (exfalso
            clear L1 L2 hJ3 h2
            rw [L3.2] at hl
            simp_all [lineGood]
            try omega)
   ·
    replace h3 := of_decide_eq_false h3
    refine WL.run (d := 25) Q0 Q0 ?_
    refine Qm ?_
    refine WL.run (d := 25) Q0 Q0 ?_
    refine WL.p Q0 (Yl.eqi Q0 Q0) ?_
    refine WL.p Q0 (Yl.pickF Q0 Q0) ?_
    refine Qa ?_
    refine WL.next ?_
    refine WC.seq' ?_
    refine WC.seq ?_
    refine Qm ?_
    refine WL.p Q0 (Yl.not Q0) ?_
    refine Qm ?_
    refine WL.split (d := 31) Q0 (fun h4 => ?_) (fun h4 => ?_)
    ·
     replace h4 := not_eq_true h4
     refine WL.skip (d := 31) Q0 Q0 Q0 Q0 ?_
     refine WL.skip (d := 31) Q0 Q0 Q0 Q0 ?_
     refine WL.skipU (d := 33) Q0 Q0 Q0 ?_
     refine WL.skipU (d := 33) Q0 Q0 Q0 ?_
     refine WL.skipU (d := 33) Q0 Q0 Q0 ?_
     refine WL.skip (d := 31) Q0 Q0 Q0 Q0 ?_
     refine WL.p Q0 (Yl.pickT Q0 Q0) ?_
     refine Qm ?_
     refine WL.skip (d := 39) Q0 Q0 Q0 Q0 ?_
     refine WL.skip (d := 39) Q0 Q0 Q0 Q0 ?_
     refine WL.skip (d := 39) Q0 Q0 Q0 Q0 ?_
     refine WL.skipU (d := 42) Q0 Q0 Q0 ?_
     refine WL.skipU (d := 42) Q0 Q0 Q0 ?_
     refine WL.skipU (d := 42) Q0 Q0 Q0 ?_
     refine WL.skip (d := 39) Q0 Q0 Q0 Q0 ?_
     refine WL.p Q0 (Yl.pickT Q0 Q0) ?_
     refine WL.next ?_
     refine WC.condT Q0 ?_
     refine WC.seq ?_
     refine WL.p Q0 (Yl.build bt40 Q0 Q4) ?_
     refine WL.s (Yr.storeB hs Q0 Q0 Q0 Q5 Q3 Q0 (by exact szf40)) ?_
     clear hs; rintro _ w hs
     refine Qa ?_
     refine WL.next ?_
     refine WC.ret ?_
     refine At.thenret ?_
     refine At.blockret ?_
     refine At.thenret ?_
     refine At.thenret ?_
     refine At.blockret ?_
     refine At.thenret ?_
     refine fin2c rfl agg40 Q0 Q0 hs Q1 Q0 ?_
     refine RetP.mk hs ?_
     obtain ⟨L1, L2⟩ := line_hit (s := s) (i := (k : Int)) Q7 Q7 h2 hJ3
     clear hs
     cases hl : lineIs s with
     | false =>
      simp only [implLine, hl]
      first
       | rfl
       | (exfalso
          cases hf : (cutC 32 s).2.2 with
          | false => simp_all
          | true =>
            have L3 := L1 hf
            clear L1 L2 hJ3 h2
            simp_all [lineGood]
            try omega)
     | true =>
      cases hf : (cutC 32 s).2.2 with
      | false => rw [L2 hf] at hl; cases hl
      | true =>
       have L3 := L1 hf
       first
        | (simp only [implLine, hl, L3.1]; rfl)
        | (exfalso
           clear L1 L2 hJ3 h2
           rw [L3.2] at hl
           simp_all [lineGood]
           try omega)
    ·
     replace h4 := not_eq_false h4
     refine WL.run (d := 31) Q0 Q0 ?_
     refine Qm ?_
     refine WL.run (d := 31) Q0 Q0 ?_
     refine Qm ?_
     refine WL.split (d := 33) Q0 (fun h5 => ?_) (fun h5 => ?_)
     ·
      replace h5 := of_decide_eq_true h5
      refine WL.run (d := 33) Q0 Q0 ?_
      refine Qm ?_
      refine WL.run (d := 33) Q0 Q0 ?_
      refine WL.p Q0 (Yl.len_str str9 Q0) ?_
      refine WL.run (d := 33) Q0 Q0 ?_
      refine WL.p Q0 (Yl.gtr Q0 Q0) ?_
      refine WL.run (d := 31) Q0 Q0 ?_
      refine WL.p Q0 (Yl.pickT Q0 Q0) ?_
      refine WL.p Q0 (Yl.pickF Q0 Q0) ?_
      refine Qm ?_
      refine WL.split (d := 39) Q0 (fun h6 => ?_) (fun h6 => ?_)
      ·
       replace h6 := of_decide_eq_true h6
       refine WL.skip (d := 39) Q0 Q0 Q0 Q0 ?_
       refine WL.skip (d := 39) Q0 Q0 Q0 Q0 ?_
       refine WL.skip (d := 39) Q0 Q0 Q0 Q0 ?_
       refine WL.skipU (d := 42) Q0 Q0 Q0 ?_
       refine WL.skipU (d := 42) Q0 Q0 Q0 ?_
       refine WL.skipU (d := 42) Q0 Q0 Q0 ?_
       refine WL.skip (d := 39) Q0 Q0 Q0 Q0 ?_
       refine WL.p Q0 (Yl.pickT Q0 Q0) ?_
       refine WL.next ?_
       refine WC.condT Q0 ?_
       refine WC.seq ?_
       refine WL.p Q0 (Yl.build bt40 Q0 Q4) ?_
       refine WL.s (Yr.storeB hs Q0 Q0 Q0 Q5 Q3 Q0 (by exact szf40)) ?_
       clear hs; rintro _ w hs
       refine Qa ?_
       refine WL.next ?_
       refine WC.ret ?_
       refine At.thenret ?_
       refine At.blockret ?_
       refine At.thenret ?_
       refine At.thenret ?_
       refine At.blockret ?_
       refine At.thenret ?_
       refine fin2c rfl agg40 Q0 Q0 hs Q1 Q0 ?_
       refine RetP.mk hs ?_
       obtain ⟨L1, L2⟩ := line_hit (s := s) (i := (k : Int)) Q7 Q7 h2 hJ3
       clear hs
       cases hl : lineIs s with
       | false =>
        simp only [implLine, hl]
        first
         | rfl
         | (exfalso
            cases hf : (cutC 32 s).2.2 with
            | false => simp_all
            | true =>
              have L3 := L1 hf
              clear L1 L2 hJ3 h2
              simp_all [lineGood]
              try omega)
       | true =>
        cases hf : (cutC 32 s).2.2 with
        | false => rw [L2 hf] at hl; cases hl
        | true =>
         have L3 := L1 hf
         first
          | (simp only [implLine, hl, L3.1]; rfl)
          | (exfalso
             clear L1 L2 hJ3 h2
             rw [L3.2] at hl
             simp_all [lineGood]
             try omega)
      ·
       replace h6 := of_decide_eq_false h6
       refine WL.run (d := 39) Q0 Q0 ?_
       refine Qm ?_
       refine WL.run (d := 39) Q0 Q0 ?_
       refine WL.p Q0 (Yl.not Q0) ?_
       refine WL.run (d := 39) Q0 Q0 ?_
       refine Qm ?_
       refine WL.split (d := 42) Q0 (fun h7 => ?_) (fun h7 => ?_)
       ·
        replace h7 := not_eq_true h7
        replace h7 := of_decide_eq_false h7
        refine WL.run (d := 42) Q0 Q0 ?_
        refine Qm ?_
        refine WL.run (d := 42) Q0 Q0 ?_
        refine WL.callp hs Q0 (Yc.func Q0 fn33) (c_impl_IsName _ _ (by first | assumption | (refine Ph.old ?_ hs; assumption) | (show WfS _; exact Nat.le_trans (cutC_len _ _).2 Q7))) ?_
        clear hs; intro w hs
        refine WL.run (d := 42) Q0 Q0 ?_
        refine WL.p Q0 (Yl.not Q0) ?_
        refine WL.run (d := 39) Q0 Q0 ?_
        refine WL.p Q0 (Yl.pickT Q0 Q0) ?_
        refine WL.p Q0 (Yl.pickF Q0 Q0) ?_
        refine WL.next ?_
        refine WC.condS Q0 (fun h8 => ?_) (fun h8 => ?_)
        ·
         replace h8 := not_eq_true h8
         refine WC.seq ?_
         refine WL.p Q0 (Yl.build bt40 Q0 Q4) ?_
         refine WL.s (Yr.storeB hs Q0 Q0 Q0 Q5 Q3 Q0 (by exact szf40)) ?_
         clear hs; rintro _ w hs
         refine Qa ?_
         refine WL.next ?_
         refine WC.ret ?_
         refine At.thenret ?_
         refine At.blockret ?_
         refine At.thenret ?_
         refine At.thenret ?_
         refine At.blockret ?_
         refine At.thenret ?_
         refine fin2c rfl agg40 Q0 Q0 hs Q1 Q0 ?_
         refine RetP.mk hs ?_
         obtain ⟨L1, L2⟩ := line_hit (s := s) (i := (k : Int)) Q7 Q7 h2 hJ3
         clear hs
         cases hl : lineIs s with
         | false =>
          simp only [implLine, hl]
          first
           | rfl
           | (exfalso
              cases hf : (cutC 32 s).2.2 with
              | false => simp_all
              | true =>
                have L3 := L1 hf
                clear L1 L2 hJ3 h2
                simp_all [lineGood]
                try omega)
         | true =>
          cases hf : (cutC 32 s).2.2 with
          | false => rw [L2 hf] at hl; cases hl
          | true =>
           have L3 := L1 hf
           first
            | (simp only [implLine, hl, L3.1]; rfl)
            | (exfalso
               clear L1 L2 hJ3 h2
               rw [L3.2] at hl
               simp_all [lineGood]
               try omega)
        ·
         replace h8 := not_eq_false h8
         refine WC.skipn ?_
         refine WC.seq ?_
         refine Qm ?_
         refine Qm ?_
         refine WL.p Q0 (Yl.build bt40 Q0 Q4) ?_
         refine WL.s (Yr.storeB hs Q0 Q0 Q0 Q5 Q3 Q0 (by exact szf40)) ?_
         clear hs; rintro _ w hs
         refine Qa ?_
         refine WL.next ?_
         refine WC.ret ?_
         refine At.blockret ?_
         refine At.thenret ?_
         refine At.thenret ?_
         refine At.blockret ?_
         refine At.thenret ?_
         refine fin2c rfl agg40 Q0 Q0 hs Q1 Q0 ?_
         refine RetP.mk hs ?_
         obtain ⟨L1, L2⟩ := line_hit (s := s) (i := (k : Int)) Q7 Q7 h2 hJ3
         clear hs
         cases hl : lineIs s with
         | false =>
          simp only [implLine, hl]
          first
           | rfl
           | (exfalso
              cases hf : (cutC 32 s).2.2 with
              | false => simp_all
              | true =>
                have L3 := L1 hf
                clear L1 L2 hJ3 h2
                simp_all [lineGood]
                try omega)
         | true =>
          cases hf : (cutC 32 s).2.2 with
          | false => rw [L2 hf] at hl; cases hl
          | true =>
           have L3 := L1 hf
           first
            | (simp only [implLine, hl, L3.1]; rfl)
            | (exfalso
               clear L1 L2 hJ3 h2
               rw [L3.2] at hl
               simp_all [lineGood]
               try omega)
       ·
        replace h7 := not_eq_false h7
        replace h7 := of_decide_eq_true h7
        refine WL.skip (d := 42) Q0 Q0 Q0 Q0 ?_
        refine WL.skip (d := 42) Q0 Q0 Q0 Q0 ?_
        refine WL.skip (d := 42) Q0 Q0 Q0 Q0 ?_
        refine WL.run (d := 39) Q0 Q0 ?_
        refine WL.p Q0 (Yl.pickF Q0 Q0) ?_
        refine WL.p Q0 (Yl.pickF Q0 Q0) ?_
        refine WL.next ?_
        refine WC.condF Q0 ?_
        refine WC.skipn ?_
        refine WC.seq ?_
        refine Qm ?_
        refine Qm ?_
        refine WL.p Q0 (Yl.build bt40 Q0 Q4) ?_
        refine WL.s (Yr.storeB hs Q0 Q0 Q0 Q5 Q3 Q0 (by exact szf40)) ?_
        clear hs; rintro _ w hs
        refine Qa ?_
        refine WL.next ?_
        refine WC.ret ?_
        refine At.blockret ?_
        refine At.thenret ?_
        refine At.thenret ?_
        refine At.blockret ?_
        refine At.thenret ?_
        refine fin2c rfl agg40 Q0 Q0 hs Q1 Q0 ?_
        refine RetP.mk hs ?_
        obtain ⟨L1, L2⟩ := line_hit (s := s) (i := (k : Int)) Q7 Q7 h2 hJ3
        clear hs
        cases hl : lineIs s with
        | false =>
         simp only [implLine, hl]
         first
          | rfl
          | (exfalso
             cases hf : (cutC 32 s).2.2 with
             | false => simp_all
             | true =>
               have L3 := L1 hf
               clear L1 L2 hJ3 h2
               simp_all [lineGood]
               try omega)
        | true =>
         cases hf : (cutC 32 s).2.2 with
         | false => rw [L2 hf] at hl; cases hl
         | true =>
          have L3 := L1 hf
          first
           | (simp only [implLine, hl, L3.1]; rfl)
           | (exfalso
              clear L1 L2 hJ3 h2
              rw [L3.2] at hl
              simp_all [lineGood]
              try omega)
     ·
      replace h5 := of_decide_eq_false h5
      refine WL.skip (d := 33) Q0 Q0 Q0 Q0 ?_
      refine WL.skip (d := 33) Q0 Q0 Q0 Q0 ?_
      refine WL.skip (d := 33) Q0 Q0 Q0 Q0 ?_
      refine WL.run (d := 31) Q0 Q0 ?_
      refine WL.p Q0 (Yl.pickF Q0 Q0) ?_
      refine WL.p Q0 (Yl.pickF Q0 Q0) ?_
      refine Qm ?_
      refine WL.run (d := 39) Q0 Q0 ?_
      refine Qm ?_
      refine WL.run (d := 39) Q0 Q0 ?_
      refine WL.p Q0 (Yl.not Q0) ?_
      refine WL.run (d := 39) Q0 Q0 ?_
      refine Qm ?_
      refine WL.split (d := 42) Q0 (fun h6 => ?_) (fun h6 => ?_)
      ·
       replace h6 := not_eq_true h6
       replace h6 := of_decide_eq_false h6
       refine WL.run (d := 42) Q0 Q0 ?_
       refine Qm ?_
       refine WL.run (d := 42) Q0 Q0 ?_
       refine WL.callp hs Q0 (Yc.func Q0 fn33) (c_impl_IsName _ _ (by first | assumption | (refine Ph.old ?_ hs; assumption) | (show WfS _; exact Nat.le_trans (cutC_len _ _).2 Q7))) ?_
       clear hs; intro w hs
       refine WL.run (d := 42) Q0 Q0 ?_
       refine WL.p Q0 (Yl.not Q0) ?_
       refine WL.run (d := 39) Q0 Q0 ?_
       refine WL.p Q0 (Yl.pickT Q0 Q0) ?_
       refine WL.p Q0 (Yl.pickF Q0 Q0) ?_
       refine WL.next ?_
       refine WC.condS Q0 (fun h7 => ?_) (fun h7 => ?_)
       ·
        replace h7 := not_eq_true h7
        refine WC.seq ?_
        refine WL.p Q0 (Yl.build bt40 Q0 Q4) ?_
        refine WL.s (Yr.storeB hs Q0 Q0 Q0 Q5 Q3 Q0 (by exact szf40)) ?_
        clear hs; rintro _ w hs
        refine Qa ?_
        refine WL.next ?_
        refine WC.ret ?_
        refine At.thenret ?_
        refine At.blockret ?_
        refine At.thenret ?_
        refine At.thenret ?_
        refine At.blockret ?_
        refine At.thenret ?_
        refine fin2c rfl agg40 Q0 Q0 hs Q1 Q0 ?_
        refine RetP.mk hs ?_
        obtain ⟨L1, L2⟩ := line_hit (s := s) (i := (k : Int)) Q7 Q7 h2 hJ3
        clear hs
        cases hl : lineIs s with
        | false =>
         simp only [implLine, hl]
         first
          | rfl
          | (exfalso
             cases hf : (cutC 32 s).2.2 with
             | false => simp_all
             | true =>
               have L3 := L1 hf
               clear L1 L2 hJ3 h2
               simp_all [lineGood]
               try omega)
        | true =>
         cases hf : (cutC 32 s).2.2 with
         | false => rw [L2 hf] at hl; cases hl
         | true =>
          have L3 := L1 hf
          first
           | (simp only [implLine, hl, L3.1]; rfl)
           | (exfalso
              clear L1 L2 hJ3 h2
              rw [L3.2] at hl
              simp_all [lineGood]
              try omega)
       ·
        replace h7 := not_eq_false h7
        refine WC.skipn ?_
        refine WC.seq ?_
        refine Qm ?_
        refine Qm ?_
        refine WL.p Q0 (Yl.build bt40 Q0 Q4) ?_
        refine WL.s (Yr.storeB hs Q0 Q0 Q0 Q5 Q3 Q0 (by exact szf40)) ?_
        clear hs; rintro _ w hs
        refine Qa ?_
        refine WL.next ?_
        refine WC.ret ?_
        refine At.blockret ?_
        refine At.thenret ?_
        refine At.thenret ?_
        refine At.blockret ?_
        refine At.thenret ?_
        refine fin2c rfl agg40 Q0 Q0 hs Q1 Q0 ?_
        refine RetP.mk hs ?_
        obtain ⟨L1, L2⟩ := line_hit (s := s) (i := (k : Int)) Q7 Q7 h2 hJ3
        clear hs
        cases hl : lineIs s with
        | false =>
         simp only [implLine, hl]
         first
          | rfl
          | (exfalso
             cases hf : (cutC 32 s).2.2 with
             | false => simp_all
             | true =>
               have L3 := L1 hf
               clear L1 L2 hJ3 h2
               simp_all [lineGood]
               try omega)
        | true =>
         cases hf : (cutC 32 s).2.2 with
         | false => rw [L2 hf] at hl; cases hl
         | true =>
          have L3 := L1 hf
          first
           | (simp only [implLine, hl, L3.1]; rfl)
           | (exfalso
              clear L1 L2 hJ3 h2
              rw [L3.2] at hl
              simp_all [lineGood]
              try omega)
      ·
       replace h6 := not_eq_false h6
       replace h6 := of_decide_eq_true h6
       refine WL.skip (d := 42) Q0 Q0 Q0 Q0 ?_
       refine WL.skip (d := 42) Q0 Q0 Q0 Q0 ?_
       refine WL.skip (d := 42) Q0 Q0 Q0 Q0 ?_
       refine WL.run (d := 39) Q0 Q0 ?_
       refine WL.p Q0 (Yl.pickF Q0 Q0) ?_
       refine WL.p Q0 (Yl.pickF Q0 Q0) ?_
       refine WL.next ?_
       refine WC.condF Q0 ?_
       refine WC.skipn ?_
       refine WC.seq ?_
       refine Qm ?_
       refine Qm ?_
       refine WL.p Q0 (Yl.build bt40 Q0 Q4) ?_
       refine WL.s (Yr.storeB hs Q0 Q0 Q0 Q5 Q3 Q0 (by exact szf40)) ?_
       clear hs; rintro _ w hs
       refine Qa ?_
       refine WL.next ?_
       refine WC.ret ?_
       refine At.blockret ?_
       refine At.thenret ?_
       refine At.thenret ?_
       refine At.blockret ?_
       refine At.thenret ?_
       refine fin2c rfl agg40 Q0 Q0 hs Q1 Q0 ?_
       refine RetP.mk hs ?_
       obtain ⟨L1, L2⟩ := line_hit (s := s) (i := (k : Int)) Q7 Q7 h2 hJ3
       clear hs
       cases hl : lineIs s with
       | false =>
        simp only [implLine, hl]
        first
         | rfl
         | (exfalso
            cases hf : (cutC 32 s).2.2 with
            | false => simp_all
            | true =>
              have L3 := L1 hf
              clear L1 L2 hJ3 h2
              simp_all [lineGood]
              try omega)
       | true =>
        cases hf : (cutC 32 s).2.2 with
        | false => rw [L2 hf] at hl; cases hl
        | true =>
         have L3 := L1 hf
         first
          | (simp only [implLine, hl, L3.1]; rfl)
          | (exfalso
             clear L1 L2 hJ3 h2
             rw [L3.2] at hl
             simp_all [lineGood]
             try omega)
 ·
  replace h1 := of_decide_eq_false h1
  refine WC.exit ?_
  refine At.thenexit ?_
  refine At.thenexit ?_
  refine At.blockexit ?_
  refine At.then_ ?_
  refine WC.seq ?_
  refine WL.p Q0 (Yl.build bt40 Q0 Q4) ?_
  refine WL.s (Yr.storeB hs Q0 Q0 Q0 Q5 Q3 Q0 (by exact szf40)) ?_
  clear hs; rintro _ w hs
  refine Qa ?_
  refine WL.next ?_
  refine WC.ret ?_
  refine fin2c rfl agg40 Q0 Q0 hs Q1 Q0 ?_
  refine RetP.mk hs ?_
  simp only [implLine, line_none (s := s) (fun j a b => hJ3 j a Q7)]; rfl

theorem c_impl_ParseScript (s : Str) (w : World)  (hb : s.length ≤ 2097152) (hm_ : ∃ m, w.cell? ⟨0, 0, none⟩ = some (.int .i64 m)) : Calls Tryz.prog 6 [S s].toArray w (Ret w (fun v w' => ∃ x : Sl TLine, v = .tuple #[x.v, Bo (scriptIs s)] ∧ x.l = scriptLines s ∧ Fresh w x w')) := by
 refine enterN 39 Tryz.func6 rfl rfl rfl ?_
 have hs := Sat.start w
 refine WC.seq ?_
 refine Qa ?_
 refine Qa ?_
 refine WL.next ?_
 refine WC.seq' ?_
 refine WC.seq ?_
 refine Qm ?_
 refine WL.p Q0 (Yl.eqs Q0 Q0) ?_
 refine WL.next ?_
 refine WC.condS Q0 (fun h1 => ?_) (fun h1 => ?_)
 ·
  replace h1 := of_decide_eq_true h1
  refine WC.seq ?_
  refine WL.r Q0 (Yr.buildSlice hs sll25 Q0 Q0 Q0 Q4 Q0) ?_
  clear hs; rintro _ w ⟨b1, rfl, hb, hs⟩; clear hb
  refine Qa ?_
  refine Qa ?_
  refine WL.next ?_
  refine WC.ret ?_
  refine At.thenret ?_
  refine fin2' rfl Q0 Q0 ?_
  refine Ret.mk hs ?_
  replace hs := Sat.boxow (l := ([] : List TLine)) (hs.sel (D := [box b1 _ _]) Q2) rfl rfl (by simp) (ownL_mk_flat (by simp))
  first
   | exact ⟨⟨[], some ⟨b1, 0, none⟩, 0⟩, by rw [scriptIs_nil h1]; rfl, (scriptLines_nil h1).symm, hs.fresh List.mem_cons_self⟩
   | (replace hx3 : x3.l = splitC 59 s := hx3
      have hb9 : scriptIs s = false := by
        cases hld : lineIs d with
        | false => exact scriptIs_bad h1 (k := k) (d := d) (by rw [← hx3]; exact hd) hld
        | true =>
          refine scriptIs_long h1 ?_
          rw [← hx3]
          first
            | omega
            | (exfalso; simp_all; done)
      exact ⟨⟨[], some ⟨b1, 0, none⟩, 0⟩, by rw [hb9]; rfl, (scriptLines_bad hb9).symm, hs.fresh List.mem_cons_self⟩)
 ·
  replace h1 := of_decide_eq_false h1
  refine WC.skipn ?_
  refine WC.seq ?_
  refine WL.r Q0 (Yr.buildSlice hs sll25 Q0 Q0 Q0 Q4 Q0) ?_
  clear hs; rintro _ w ⟨b2, rfl, hb, hs⟩; clear hb
  refine Qa ?_
  refine WL.next ?_
  refine WC.seq' ?_
  refine WC.seq ?_
  refine Qm ?_
  refine WL.call hs Q0 (Yc.func Q0 fn19) (c_strings_Split _ _ _ Q10 Q0 (by first | assumption | exact Sat.cellm hs (by assumption))) ?_
  have hs0 := hs; clear hs; intro v w hb hR hs; clear hs
  obtain ⟨x3, rfl, hx3, hf3⟩ := hR
  obtain ⟨F3, hs⟩ := hf3.sat hs0 hb; clear hs0 hf3
  have hle3 := Sl.Ok.le (hs.okow (x := x3) (F := F3) Q1)
  refine WL.p Q0 (Yl.len_sl slu36 Q0) ?_
  refine Qm ?_
  refine WL.next ?_
  refine WC.block ?_
  replace hs := Sat.boxow (l := ([] : List TLine)) (hs.sel (D := [box b2 _ _, ow x3 F3]) Q2) rfl rfl (by simp) (ownL_mk_flat (by simp))
  refine WC.loopC (ι := Nat × Sl TLine × List Nat) (fun ⟨k, q, F⟩ => x3.l.length - k) (fun ⟨k, q, F⟩ => [(16, I (k : Int)), (4, q.v)]) (fun ⟨k, q, F⟩ => [ow q F, ow x3 F3]) (fun ⟨k, q, F⟩ => k ≤ x3.l.length ∧ q.l = (x3.l.take k).map implLine ∧ (x3.l.take k).all lineIs = true ∧ k ≤ 6) [(0, _), (10, _), (14, _), (15, _)] (0, ⟨[], some ⟨b2, 0, none⟩, 0⟩, [b2]) (hs.sel (D := [ow (⟨[], some ⟨b2, 0, none⟩, 0⟩ : Sl TLine) [b2], ow x3 F3]) Q2) ⟨by rfl, by rfl, by rfl, by rfl, trivial⟩ ⟨by rfl, by rfl, trivial⟩ ?_ ?_
  ·
   exact ⟨Nat.zero_le _, rfl, rfl, Nat.zero_le _⟩
  clear hs; rintro ⟨k, q, F⟩ w ⟨hJ1, hJ2, hJ3, hJ4⟩ hs
  simp only [List.cons_append, List.nil_append] at hs
  have hxl : x3.l.length ≤ s.length + 1 := by rw [hx3]; exact splitC_len _ _
  refine WC.seq ?_
  refine WL.p Q0 (Yl.lss Q0 Q0) ?_
  refine WL.next ?_
  refine WC.seq' ?_
  refine WC.condS Q0 (fun h2 => ?_) (fun h2 => ?_)
  ·
   replace h2 := of_decide_eq_true h2
   obtain ⟨d, hd⟩ := exists_get (l := x3.l) (k := k) Q7
   have hdl : d.length ≤ s.length := splitC_mem_le (b := 59) (by rw [← show x3.l = splitC 59 s from hx3]; exact List.mem_of_getElem? hd)
   have hql : q.l.length = k := by rw [hJ2]; simp; omega
   refine WC.skipn ?_
   refine WC.seq' ?_
   refine WC.block ?_
   refine WC.seq ?_
   refine WL.p Q0 (Yl.indexAddr slt36 Q0 Q0 (hs.okow (x := x3) (F := F3) Q1) Q0 (hd)) ?_
   refine WL.p Q0 (Yl.loadC0 sca9 Q0 (Sl.Ok.at_ (hs.okow (x := x3) (F := F3) Q1) (by assumption)).2 Q0) ?_
   refine Qa ?_
   refine WL.next ?_
   refine WC.seq ?_
   refine Qm ?_
   refine WL.callp hs Q0 (Yc.func Q0 fn20) (c_impl_parseLine _ _ Q7 (by first | assumption | exact Sat.cellm hs (by assumption))) ?_
   clear hs; intro w hs
   refine Qm ?_
   refine WL.p Q0 (Yl.extract Q0 Q0) ?_
   refine WL.p Q0 (Yl.extract Q0 Q0) ?_
   refine WL.r Q0 (Yr.alloc hs zt40) ?_
   clear hs; rintro _ w ⟨b4, rfl, hb, hs⟩; clear hb
   refine WL.s (Yr.storeB hs Q0 Q0 Q0 Q5 Q3 Q0 (by exact szf40)) ?_
   clear hs; rintro _ w hs
   refine Qa ?_
   refine WL.next ?_
   refine WC.seq' ?_
   refine WC.seq ?_
   refine Qm ?_
   refine WL.p Q0 (Yl.not Q0) ?_
   refine Qm ?_
   refine WL.split (d := 27) Q0 (fun h3 => ?_) (fun h3 => ?_)
   ·
    replace h3 := not_eq_true h3
    refine WL.skip (d := 27) Q0 Q0 Q0 Q0 ?_
    refine WL.skip (d := 27) Q0 Q0 Q0 Q0 ?_
    refine WL.skip (d := 27) Q0 Q0 Q0 Q0 ?_
    refine WL.p Q0 (Yl.pickT Q0 Q0) ?_
    refine WL.next ?_
    refine WC.condT Q0 ?_
    refine WC.seq ?_
    refine WL.r Q0 (Yr.buildSlice hs sll25 Q0 Q0 Q0 Q4 Q0) ?_
    clear hs; rintro _ w ⟨b5, rfl, hb, hs⟩; clear hb
    refine Qa ?_
    refine Qa ?_
    refine WL.next ?_
    refine WC.ret ?_
    refine At.thenret ?_
    refine At.blockret ?_
    refine At.thenret ?_
    refine At.thenret ?_
    refine At.blockret ?_
    refine At.thenret ?_
    refine fin2' rfl Q0 Q0 ?_
    refine Ret.mk hs ?_
    replace hs := Sat.boxow (l := ([] : List TLine)) (hs.sel (D := [box b5 _ _]) Q2) rfl rfl (by simp) (ownL_mk_flat (by simp))
    first
     | exact ⟨⟨[], some ⟨b5, 0, none⟩, 0⟩, by rw [scriptIs_nil h1]; rfl, (scriptLines_nil h1).symm, hs.fresh List.mem_cons_self⟩
     | (replace hx3 : x3.l = splitC 59 s := hx3
        have hb9 : scriptIs s = false := by
          cases hld : lineIs d with
          | false => exact scriptIs_bad h1 (k := k) (d := d) (by rw [← hx3]; exact hd) hld
          | true =>
            refine scriptIs_long h1 ?_
            rw [← hx3]
            first
              | omega
              | (exfalso; simp_all; done)
        exact ⟨⟨[], some ⟨b5, 0, none⟩, 0⟩, by rw [hb9]; rfl, (scriptLines_bad hb9).symm, hs.fresh List.mem_cons_self⟩)
   ·
    replace h3 := not_eq_false h3
    refine WL.run (d := 27) Q0 Q0 ?_
    refine Qm ?_
    refine WL.run (d := 27) Q0 Q0 ?_
    refine WL.p Q0 (Yl.len_sl slu25 Q0) ?_
    refine WL.run (d := 27) Q0 Q0 ?_
    refine WL.p Q0 (Yl.eqi Q0 Q0) ?_
    refine WL.p Q0 (Yl.pickF Q0 Q0) ?_
    refine WL.next ?_
    refine WC.condS Q0 (fun h4 => ?_) (fun h4 => ?_)
    ·
     replace h4 := of_decide_eq_true h4
     refine WC.seq ?_
     refine WL.r Q0 (Yr.buildSlice hs sll25 Q0 Q0 Q0 Q4 Q0) ?_
     clear hs; rintro _ w ⟨b6, rfl, hb, hs⟩; clear hb
     refine Qa ?_
     refine Qa ?_
     refine WL.next ?_
     refine WC.ret ?_
     refine At.thenret ?_
     refine At.blockret ?_
     refine At.thenret ?_
     refine At.thenret ?_
     refine At.blockret ?_
     refine At.thenret ?_
     refine fin2' rfl Q0 Q0 ?_
     refine Ret.mk hs ?_
     replace hs := Sat.boxow (l := ([] : List TLine)) (hs.sel (D := [box b6 _ _]) Q2) rfl rfl (by simp) (ownL_mk_flat (by simp))
     first
      | exact ⟨⟨[], some ⟨b6, 0, none⟩, 0⟩, by rw [scriptIs_nil h1]; rfl, (scriptLines_nil h1).symm, hs.fresh List.mem_cons_self⟩
      | (replace hx3 : x3.l = splitC 59 s := hx3
         have hb9 : scriptIs s = false := by
           cases hld : lineIs d with
           | false => exact scriptIs_bad h1 (k := k) (d := d) (by rw [← hx3]; exact hd) hld
           | true =>
             refine scriptIs_long h1 ?_
             rw [← hx3]
             first
               | omega
               | (exfalso; simp_all; done)
         exact ⟨⟨[], some ⟨b6, 0, none⟩, 0⟩, by rw [hb9]; rfl, (scriptLines_bad hb9).symm, hs.fresh List.mem_cons_self⟩)
    ·
     replace h4 := of_decide_eq_false h4
     refine WC.skipn ?_
     refine WC.region ?_
     refine Qm ?_
     refine WL.p Q0 (Yl.loadAB agg40 Q0 hs Q1 Q0 Q0) ?_
     refine WL.r Q0 (Yr.buildSlice hs sll25 Q0 Q0 Q0 Q4 Q0) ?_
     clear hs; rintro _ w ⟨b7, rfl, hb, hs⟩; clear hb
     refine WL.r Q0 (Yr.append (s := q) (F := F) hs elt25 Q2 Q0 Q0 rfl (xs := [implLine d]) (hs.box_cells Q1) (by intro x hx; obtain rfl := List.mem_singleton.1 hx; exact implLine_ok Q7) (by rw [hJ2]; simp; unfold maxLen; omega) (by rw [hJ2]; simp; omega)) ?_
     clear hs; rintro _ w ⟨s8, F8, rfl, hl8, hs⟩
     refine Qa ?_
     refine WL.nil ?_
     refine At.blocknormal ?_
     refine At.then_ ?_
     refine WC.region ?_
     refine WL.p Q0 (Yl.add Q0 Q0 Q7) ?_
     refine Qm ?_
     refine WL.nil ?_
     refine At.roundC (k + 1, s8, F8) (hs.only Q2) ⟨by rfl, by rfl, by rfl, by rfl, trivial⟩ ⟨by rfl, by rfl, trivial⟩ ?_ ?_
     ·
      show x3.l.length - (k + 1) < x3.l.length - k
      omega
     ·
      exact ⟨by omega, by rw [hl8, hJ2]; exact map_step hd, all_step hd hJ3 (by simp_all), by omega⟩
  ·
   replace h2 := of_decide_eq_false h2
   refine WC.exit ?_
   refine At.thenexit ?_
   refine At.thenexit ?_
   refine At.blockexit ?_
   refine At.then_ ?_
   refine WC.seq ?_
   refine Qm ?_
   refine Qa ?_
   refine Qa ?_
   refine WL.next ?_
   refine WC.ret ?_
   refine fin2' rfl Q0 Q0 ?_
   refine Ret.mk hs ?_
   replace hx3 : x3.l = splitC 59 s := hx3
   have hk : k = x3.l.length := by omega
   have hne : 0 < (splitC 59 s).length := List.length_pos_iff.2 (splitC_ne 59 s)
   rw [hk, List.take_length] at hJ2 hJ3
   rw [hx3] at hJ2 hJ3
   have hg9 : scriptIs s = true := scriptIs_good hJ3 (by first | (rw [← hx3]; exact hJ4 (by rw [hk, hx3]; exact hne)) | (rw [← hx3, ← hk]; exact hJ4))
   exact ⟨q, by rw [hg9], by rw [scriptLines_good h1 hg9, hJ2, implLine_map hJ3], hs.fresh Q1⟩

theorem c_spec_l5Split (s : Str) (b : UInt8) (w : World)  (hb : s.length ≤ 2097152) : Calls Tryz.prog 21 [S s, U8 b].toArray w (Ret w (fun v w' => ∃ x : Sl Str, v = x.v ∧ x.l = splitC b s ∧ Fresh w x w')) := by
 refine enterN 36 Tryz.func21 rfl rfl rfl ?_
 have hs := Sat.start w
 refine WC.seq ?_
 refine Qa ?_
 refine WL.next ?_
 refine WC.seq ?_
 refine WL.r Q0 (Yr.buildSlice hs sll36 Q0 Q0 Q0 Q4 Q0) ?_
 clear hs; rintro _ w ⟨b1, rfl, hb, hs⟩; clear hb
 refine Qa ?_
 refine WL.next ?_
 refine WC.seq ?_
 refine Qa ?_
 refine WL.next ?_
 refine WC.seq' ?_
 refine WC.seq ?_
 refine Qa ?_
 refine WL.next ?_
 refine WC.block ?_
 replace hs := Sat.boxow (l := ([] : List Str)) hs rfl rfl (by simp) (ownL_mk_flat (by simp))
 refine WC.loopC (ι := Nat × Nat × Sl Str × List Nat) (fun ⟨k, f, q, F⟩ => s.length + 1 - k) (fun ⟨k, f, q, F⟩ => [(7, I (k : Int)), (6, I (f : Int)), (5, q.v)]) (fun ⟨k, f, q, F⟩ => [ow q F]) (fun ⟨k, f, q, F⟩ => (k ≤ s.length ∧ f ≤ k ∧ splitC b s = q.l ++ preH ((s.drop f).take (k - f)) (splitC b (s.drop k))) ∨ (k = s.length + 1 ∧ splitC b s = q.l)) [(0, _), (1, _), (4, _)] (0, 0, ⟨[], some ⟨b1, 0, none⟩, 0⟩, [b1]) (hs.sel (D := [ow (⟨[], some ⟨b1, 0, none⟩, 0⟩ : Sl Str) [b1]]) Q2) ⟨by rfl, by rfl, by rfl, trivial⟩ ⟨by rfl, by rfl, by rfl, trivial⟩ ?_ ?_
 ·
  exact .inl ⟨Nat.zero_le _, Nat.le_refl _, by simp [preH_nil]⟩
 clear hs; rintro ⟨k, f, q, F⟩ w hJ hs
 simp only [List.cons_append, List.nil_append] at hs
 refine WC.seq' ?_
 refine WC.seq ?_
 refine Qm ?_
 refine Qm ?_
 refine WL.p Q0 (Yl.len_str str9 Q0) ?_
 refine WL.p Q0 (Yl.leq Q0 Q0) ?_
 refine WL.next ?_
 refine WC.condS Q0 (fun h1 => ?_) (fun h1 => ?_)
 ·
  replace h1 := of_decide_eq_true h1
  obtain ⟨hJ1, hJ2, hJ3⟩ : k ≤ s.length ∧ f ≤ k ∧ splitC b s = q.l ++ preH ((s.drop f).take (k - f)) (splitC b (s.drop k)) := by
   rcases hJ with h | h
   · exact h
   · omega
  have hlq : q.l.length ≤ s.length + 1 := by
   have e1 := congrArg List.length hJ3
   have e2 := splitC_len b s
   simp only [List.length_append] at e1
   omega
  refine WC.skipn ?_
  refine WC.seq' ?_
  refine WC.block ?_
  refine WC.seq ?_
  refine Qm ?_
  refine Qm ?_
  refine WL.p Q0 (Yl.len_str str9 Q0) ?_
  refine WL.p Q0 (Yl.eqi Q0 Q0) ?_
  refine Qm ?_
  refine WL.split (d := 19) Q0 (fun h2 => ?_) (fun h2 => ?_)
  ·
   replace h2 := of_decide_eq_true h2
   refine WL.skip (d := 19) Q0 Q0 Q0 Q0 ?_
   refine WL.skip (d := 19) Q0 Q0 Q0 Q0 ?_
   refine WL.skip (d := 19) Q0 Q0 Q0 Q0 ?_
   refine WL.skip (d := 19) Q0 Q0 Q0 Q0 ?_
   refine WL.skip (d := 19) Q0 Q0 Q0 Q0 ?_
   refine WL.p Q0 (Yl.pickT Q0 Q0) ?_
   refine WL.next ?_
   refine WC.condT Q0 ?_
   refine WC.seq ?_
   refine Qm ?_
   refine Qm ?_
   refine Qm ?_
   refine Qm ?_
   refine WL.p Q0 (Yl.slice_str str9 Q0 (by exact ⟨_, by rfl⟩) (by exact ⟨_, by rfl⟩) Q7 Q7) ?_
   refine WL.r Q0 (Yr.buildSlice hs sll36 Q0 Q0 Q0 Q4 Q0) ?_
   clear hs; rintro _ w ⟨b2, rfl, hb, hs⟩; clear hb
   refine WL.r Q0 (Yr.append (s := q) (F := F) hs elt36 Q2 Q0 Q0 rfl (xs := [(s.drop f).take (k - f)]) (hs.box_cells Q1) (by intro x hx; obtain rfl := List.mem_singleton.1 hx; show WfS _; unfold WfS; simp only [List.length_take, List.length_drop]; omega) (by simp; unfold maxLen; omega) (by simp; omega)) ?_
   clear hs; rintro _ w ⟨s3, F3, rfl, hl3, hs⟩
   refine Qa ?_
   refine WL.next ?_
   refine WC.region ?_
   refine Qm ?_
   refine WL.p Q0 (Yl.add Q0 Q0 Q7) ?_
   refine Qa ?_
   refine WL.nil ?_
   refine At.blocknormal ?_
   refine At.then_ ?_
   refine WC.region ?_
   refine Qm ?_
   refine WL.p Q0 (Yl.add Q0 Q0 Q7) ?_
   refine Qa ?_
   refine WL.nil ?_
   refine At.roundC (k + 1, k + 1, s3, F3) (hs.only Q2) ⟨by rfl, by rfl, by rfl, trivial⟩ ⟨by rfl, by rfl, by rfl, trivial⟩ ?_ ?_
   ·
    show s.length + 1 - (k + 1) < s.length + 1 - k
    omega
   ·
    refine .inr ⟨by omega, ?_⟩
    rw [hl3, hJ3]
    obtain rfl : k = s.length := by omega
    rw [List.drop_length, preH_end]
  ·
   replace h2 := of_decide_eq_false h2
   refine WL.run (d := 19) Q0 Q0 ?_
   refine Qm ?_
   refine WL.run (d := 19) Q0 Q0 ?_
   refine Qm ?_
   refine WL.run (d := 19) Q0 Q0 ?_
   refine WL.p Q0 (Yl.index str9 Q0 Q0 Q0 (by first | assumption | exact List.getElem?_eq_getElem Q7)) ?_
   refine WL.run (d := 19) Q0 Q0 ?_
   refine Qm ?_
   refine WL.run (d := 19) Q0 Q0 ?_
   refine WL.p Q0 (Yl.eqi Q0 Q0) ?_
   refine WL.p Q0 (Yl.pickF Q0 Q0) ?_
   refine WL.next ?_
   refine WC.condS Q0 (fun h3 => ?_) (fun h3 => ?_)
   ·
    replace h3 := of_decide_eq_true h3
    refine WC.seq ?_
    refine Qm ?_
    refine Qm ?_
    refine Qm ?_
    refine Qm ?_
    refine WL.p Q0 (Yl.slice_str str9 Q0 (by exact ⟨_, by rfl⟩) (by exact ⟨_, by rfl⟩) Q7 Q7) ?_
    refine WL.r Q0 (Yr.buildSlice hs sll36 Q0 Q0 Q0 Q4 Q0) ?_
    clear hs; rintro _ w ⟨b4, rfl, hb, hs⟩; clear hb
    refine WL.r Q0 (Yr.append (s := q) (F := F) hs elt36 Q2 Q0 Q0 rfl (xs := [(s.drop f).take (k - f)]) (hs.box_cells Q1) (by intro x hx; obtain rfl := List.mem_singleton.1 hx; show WfS _; unfold WfS; simp only [List.length_take, List.length_drop]; omega) (by simp; unfold maxLen; omega) (by simp; omega)) ?_
    clear hs; rintro _ w ⟨s5, F5, rfl, hl5, hs⟩
    refine Qa ?_
    refine WL.next ?_
    refine WC.region ?_
    refine Qm ?_
    refine WL.p Q0 (Yl.add Q0 Q0 Q7) ?_
    refine Qa ?_
    refine WL.nil ?_
    refine At.blocknormal ?_
    refine At.then_ ?_
    refine WC.region ?_
    refine Qm ?_
    refine WL.p Q0 (Yl.add Q0 Q0 Q7) ?_
    refine Qa ?_
    refine WL.nil ?_
    refine At.roundC (k + 1, k + 1, s5, F5) (hs.only Q2) ⟨by rfl, by rfl, by rfl, trivial⟩ ⟨by rfl, by rfl, by rfl, trivial⟩ ?_ ?_
    ·
     show s.length + 1 - (k + 1) < s.length + 1 - k
     omega
    ·
     have hc := List.drop_eq_getElem_cons (l := s) (i := k) Q7
     have hcb : s[k] = b := by apply UInt8.toNat_inj.1; omega
     refine .inl ⟨by omega, Nat.le_refl _, ?_⟩
     rw [hl5, hJ3, hc, hcb, preH_cut, Nat.sub_self, List.take_zero, preH_nil]; simp
   ·
    replace h3 := of_decide_eq_false h3
    refine WC.skip ?_
    refine At.blocknormal ?_
    refine At.then_ ?_
    refine WC.region ?_
    refine Qm ?_
    refine WL.p Q0 (Yl.add Q0 Q0 Q7) ?_
    refine Qa ?_
    refine WL.nil ?_
    refine At.roundC (k + 1, f, q, F) (hs.only Q2) ⟨by rfl, by rfl, by rfl, trivial⟩ ⟨by rfl, by rfl, by rfl, trivial⟩ ?_ ?_
    ·
     show s.length + 1 - (k + 1) < s.length + 1 - k
     omega
    ·
     have hc := List.drop_eq_getElem_cons (l := s) (i := k) Q7
     have hcb : s[k] ≠ b := by intro h; apply h3; rw [h]
     refine .inl ⟨by omega, by omega, ?_⟩
     have e : (s.drop f).take (k + 1 - f) = (s.drop f).take (k - f) ++ [s[k]] := by
      rw [show k + 1 - f = (k - f) + 1 from by omega, List.take_add_one, List.getElem?_drop, show f + (k - f) = k from by omega, List.getElem?_eq_getElem Q7]; rfl
     rw [e, hJ3, hc, preH_step hcb]
 ·
  replace h1 := of_decide_eq_false h1
  refine WC.exit ?_
  refine At.thenexit ?_
  refine At.thenexit ?_
  refine At.blockexit ?_
  refine At.then_ ?_
  refine WC.seq ?_
  refine Qm ?_
  refine Qa ?_
  refine WL.next ?_
  refine WC.ret ?_
  refine fin1' rfl Q0 ?_
  refine Ret.mk hs ?_
  rcases hJ with h | ⟨_, h⟩
  · omega
  · exact ⟨q, rfl, h.symm, hs.fresh Q1⟩

theorem c_spec_l8Words  (w : World)   : Calls Tryz.prog 27 [].toArray w (Ret w (fun v w' => ∃ x : Sl Str, v = x.v ∧ x.l = opWords ∧ Fresh w x w')) := by
 refine enterN 2 Tryz.func27 rfl rfl rfl ?_
 have hs := Sat.start w
 refine WC.seq ?_
 refine Qa ?_
 refine WL.next ?_
 refine WC.seq ?_
 refine WL.r Q0 (Yr.buildSlice hs sll36 Q0 Q0 Q0 Q4 Q0) ?_
 clear hs; rintro _ w ⟨b1, rfl, hb, hs⟩; clear hb
 refine Qa ?_
 refine WL.next ?_
 refine WC.ret ?_
 refine fin1' rfl Q0 ?_
 refine Ret.mk hs ?_
 replace hs := Sat.boxow (l := (opWords : List Str)) hs rfl rfl (by simp [opWords]; unfold maxLen; omega) (ownL_mk_flat (by intro x hx; simp only [opWords, List.mem_cons, List.not_mem_nil, or_false] at hx; rcases hx with rfl | rfl | rfl | rfl | rfl | rfl <;> (show WfS _; unfold WfS; simp)))
 exact ⟨_, rfl, rfl, hs.fresh List.mem_cons_self⟩

theorem c_spec_l1In (x : Int) (least : Int) (most : Int) (w : World)   : Calls Tryz.prog 26 [I x, I least, I most].toArray w (RetP w (Bo (inR x least most))) := by
 refine enterN 15 Tryz.func26 rfl rfl rfl ?_
 have hs := Sat.start w
 refine WC.seq ?_
 refine Qa ?_
 refine WL.next ?_
 refine WC.seq ?_
 refine Qm ?_
 refine Qm ?_
 refine WL.p Q0 (Yl.geq Q0 Q0) ?_
 refine Qm ?_
 refine WL.split (d := 10) Q0 (fun h1 => ?_) (fun h1 => ?_)
 ·
  replace h1 := of_decide_eq_true h1
  refine WL.run (d := 10) Q0 Q0 ?_
  refine Qm ?_
  refine WL.run (d := 10) Q0 Q0 ?_
  refine Qm ?_
  refine WL.run (d := 10) Q0 Q0 ?_
  refine WL.p Q0 (Yl.leq Q0 Q0) ?_
  refine WL.p Q0 (Yl.pickT Q0 Q0) ?_
  refine Qa ?_
  refine WL.next ?_
  refine WC.ret ?_
  refine fin1' rfl Q0 ?_
  refine RetP.mk hs ?_
  simp [inR, h1]
 ·
  replace h1 := of_decide_eq_false h1
  refine WL.skip (d := 10) Q0 Q0 Q0 Q0 ?_
  refine WL.skip (d := 10) Q0 Q0 Q0 Q0 ?_
  refine WL.skip (d := 10) Q0 Q0 Q0 Q0 ?_
  refine WL.p Q0 (Yl.pickF Q0 Q0) ?_
  refine Qa ?_
  refine WL.next ?_
  refine WC.ret ?_
  refine fin1' rfl Q0 ?_
  refine RetP.mk hs ?_
  rw [inR_false.2 Q7]

theorem c_spec_IsName (s : Str) (w : World) (h_s : Ph.ok w s)  : Calls Tryz.prog 34 [S s].toArray w (RetP w (Bo (isName s))) := by
 have hw : s.length ≤ 9223372036854775807 := h_s
 refine enterN 23 Tryz.func34 rfl rfl rfl ?_
 have hs := Sat.start w
 refine WC.seq ?_
 refine Qa ?_
 refine WL.next ?_
 refine WC.seq' ?_
 refine WC.seq ?_
 refine Qa ?_
 refine WL.next ?_
 refine WC.block ?_
 refine WC.loopC (ι := Nat) (fun k => s.length - k) (fun k => [(3, I (k : Int))]) (fun _ => []) (fun k => s.all lower = (s.drop k).all lower) [(0, _)] 0 (hs) ⟨by rfl, trivial⟩ ⟨by rfl, trivial⟩ ?_ ?_
 ·
  simp
 clear hs; rintro k w hJ hs
 simp only [List.nil_append] at hs
 refine WC.seq' ?_
 refine WC.seq ?_
 refine Qm ?_
 refine Qm ?_
 refine WL.p Q0 (Yl.len_str str9 Q0) ?_
 refine WL.p Q0 (Yl.lss Q0 Q0) ?_
 refine WL.next ?_
 refine WC.condS Q0 (fun h1 => ?_) (fun h1 => ?_)
 ·
  replace h1 := of_decide_eq_true h1
  obtain ⟨d, hd⟩ := exists_get (l := s) (k := k) Q7
  rw [drop_cons hd] at hJ
  refine WC.skipn ?_
  refine WC.seq' ?_
  refine WC.block ?_
  refine WC.seq ?_
  refine Qm ?_
  refine Qm ?_
  refine WL.p Q0 (Yl.index str9 Q0 Q0 Q0 (by first | assumption | exact List.getElem?_eq_getElem Q7)) ?_
  refine WL.p Q0 (Yl.lss Q0 Q0) ?_
  refine Qm ?_
  refine WL.split (d := 14) Q0 (fun h2 => ?_) (fun h2 => ?_)
  ·
   replace h2 := of_decide_eq_true h2
   refine WL.skip (d := 14) Q0 Q0 Q0 Q0 ?_
   refine WL.skip (d := 14) Q0 Q0 Q0 Q0 ?_
   refine WL.skip (d := 14) Q0 Q0 Q0 Q0 ?_
   refine WL.skip (d := 14) Q0 Q0 Q0 Q0 ?_
   refine WL.p Q0 (Yl.pickT Q0 Q0) ?_
   refine WL.next ?_
   refine WC.condT Q0 ?_
   refine WC.seq ?_
   refine Qa ?_
   refine WL.next ?_
   refine WC.ret ?_
   refine At.blockret ?_
   refine At.thenret ?_
   refine At.thenret ?_
   refine At.blockret ?_
   refine At.thenret ?_
   refine fin1' rfl Q0 ?_
   refine RetP.mk hs ?_
   first
    | (simp [isName, hJ, lower]; done)
    | (simp [isName, hJ, lower]; omega)
    | simp_all [isName, hJ, lower]
  ·
   replace h2 := of_decide_eq_false h2
   refine WL.run (d := 14) Q0 Q0 ?_
   refine Qm ?_
   refine WL.run (d := 14) Q0 Q0 ?_
   refine Qm ?_
   refine WL.run (d := 14) Q0 Q0 ?_
   refine WL.p Q0 (Yl.index str9 Q0 Q0 Q0 (by first | assumption | exact List.getElem?_eq_getElem Q7)) ?_
   refine WL.run (d := 14) Q0 Q0 ?_
   refine WL.p Q0 (Yl.gtr Q0 Q0) ?_
   refine WL.p Q0 (Yl.pickF Q0 Q0) ?_
   refine WL.next ?_
   refine WC.condS Q0 (fun h3 => ?_) (fun h3 => ?_)
   ·
    replace h3 := of_decide_eq_true h3
    refine WC.seq ?_
    refine Qa ?_
    refine WL.next ?_
    refine WC.ret ?_
    refine At.blockret ?_
    refine At.thenret ?_
    refine At.thenret ?_
    refine At.blockret ?_
    refine At.thenret ?_
    refine fin1' rfl Q0 ?_
    refine RetP.mk hs ?_
    first
     | (simp [isName, hJ, lower]; done)
     | (simp [isName, hJ, lower]; omega)
     | simp_all [isName, hJ, lower]
   ·
    replace h3 := of_decide_eq_false h3
    refine WC.skip ?_
    refine At.blocknormal ?_
    refine At.then_ ?_
    refine WC.region ?_
    refine Qm ?_
    refine WL.p Q0 (Yl.add Q0 Q0 Q7) ?_
    refine Qa ?_
    refine WL.nil ?_
    refine At.roundC (k + 1) (hs.only Q2) ⟨by rfl, trivial⟩ ⟨by rfl, trivial⟩ ?_ ?_
    ·
     omega
    ·
     rw [hJ]; simp [lower]; omega
 ·
  replace h1 := of_decide_eq_false h1
  rw [drop_out (l := s) Q7] at hJ
  refine WC.exit ?_
  refine At.thenexit ?_
  refine At.thenexit ?_
  refine At.blockexit ?_
  refine At.then_ ?_
  refine WC.seq ?_
  refine Qm ?_
  refine WL.p Q0 (Yl.len_str str9 Q0) ?_
  refine WL.callp hs Q0 (Yc.func Q0 fn26) (c_spec_l1In _ _ _ _) ?_
  clear hs; intro w hs
  refine Qa ?_
  refine WL.next ?_
  refine WC.ret ?_
  refine fin1' rfl Q0 ?_
  refine RetP.mk hs ?_
  first
   | (simp [isName, hJ, lower]; done)
   | (simp [isName, hJ, lower]; omega)
   | simp_all [isName, hJ, lower]

theorem c_spec_l8Line (s : Str) (w : World) (h_s : Ph.ok w s) (hb : s.length ≤ 2097152) : Calls Tryz.prog 22 [S s].toArray w (RetP w (.tuple #[.agg (Ph.enc (specLine s)).toArray, Bo (lineIs s)])) := by
 refine enterN 63 Tryz.func22 rfl rfl rfl ?_
 have hs := Sat.start w
 refine WC.seq ?_
 refine WL.r Q0 (Yr.alloc hs zt40) ?_
 clear hs; rintro _ w ⟨b1, rfl, hb, hs⟩; clear hb
 refine Qa ?_
 refine WL.next ?_
 refine WC.seq ?_
 refine WL.call hs Q0 (Yc.func Q0 fn27) (c_spec_l8Words _) ?_
 have hs0 := hs; clear hs; intro v w hb hR hs; clear hs
 obtain ⟨x2, rfl, hx2, hf2⟩ := hR
 obtain ⟨F2, hs⟩ := hf2.sat hs0 hb; clear hs0 hf2
 have hle2 := Sl.Ok.le (hs.okow (x := x2) (F := F2) Q1)
 refine Qa ?_
 refine WL.next ?_
 refine WC.seq' ?_
 refine WC.seq ?_
 refine Qa ?_
 refine WL.next ?_
 refine WC.block ?_
 refine WC.loopC (ι := Nat) (fun k => 6 - k) (fun k => [(5, I (k : Int))]) (fun k => [box b1 40 [.int .i64 0, .string ⟨#[]⟩], ow x2 F2]) (fun k => 1 ≤ k ∧ ∀ j : Int, 1 ≤ j → j < k → (opPre j).isPrefixOf s = false) [(0, _), (2, _), (4, _)] 1 (hs.sel (D := [box b1 40 _, ow x2 F2]) Q2) ⟨by rfl, by rfl, by rfl, trivial⟩ ⟨by rfl, trivial⟩ ?_ ?_
 ·
  exact ⟨Nat.le_refl _, fun j a b => by omega⟩
 clear hs; rintro k w ⟨hJ1, hJ2⟩ hs
 simp only [List.cons_append, List.nil_append] at hs
 have hwl : x2.l.length = 6 := by rw [hx2]; rfl
 refine WC.seq' ?_
 refine WC.seq ?_
 refine Qm ?_
 refine Qm ?_
 refine WL.p Q0 (Yl.len_sl slu36 Q0) ?_
 refine WL.p Q0 (Yl.lss Q0 Q0) ?_
 refine WL.next ?_
 refine WC.condS Q0 (fun h1 => ?_) (fun h1 => ?_)
 ·
  replace h1 := of_decide_eq_true h1
  have hd : x2.l[k]? = some (opPre (k : Int)) := by
   rw [hx2]
   have := opWords_get (k := (k : Int)) ⟨by omega, by omega⟩
   simpa [opPre] using this
  have hpl := opPre_len (k : Int)
  refine WC.skipn ?_
  refine WC.seq' ?_
  refine WC.block ?_
  refine WC.seq ?_
  refine Qm ?_
  refine Qm ?_
  refine WL.p Q0 (Yl.indexAddr slt36 Q0 Q0 (hs.okow (x := x2) (F := F2) Q1) Q0 (hd)) ?_
  refine WL.p Q0 (Yl.loadC0 sca9 Q0 (Sl.Ok.at_ (hs.okow (x := x2) (F := F2) Q1) (by assumption)).2 Q0) ?_
  refine Qa ?_
  refine WL.next ?_
  refine WC.seq ?_
  refine Qm ?_
  refine WL.p Q0 (Yl.len_str str9 Q0) ?_
  refine Qm ?_
  refine WL.p Q0 (Yl.len_str str9 Q0) ?_
  refine WL.p Q0 (Yl.geq Q0 Q0) ?_
  refine Qm ?_
  refine WL.split (d := 25) Q0 (fun h2 => ?_) (fun h2 => ?_)
  ·
   replace h2 := of_decide_eq_true h2
   refine WL.run (d := 25) Q0 Q0 ?_
   refine Qm ?_
   refine WL.run (d := 25) Q0 Q0 ?_
   refine Qm ?_
   refine WL.run (d := 25) Q0 Q0 ?_
   refine WL.p Q0 (Yl.len_str str9 Q0) ?_
   refine WL.run (d := 25) Q0 Q0 ?_
   refine WL.p Q0 (Yl.slice_str (l := 0) str9 Q0 (by exact rfl) (by exact ⟨_, by rfl⟩) Q7 Q7) ?_
   refine WL.run (d := 25) Q0 Q0 ?_
   refine Qm ?_
   refine WL.run (d := 25) Q0 Q0 ?_
   refine WL.p Q0 (Yl.eqs Q0 Q0) ?_
   refine WL.p Q0 (Yl.pickT Q0 Q0) ?_
   refine WL.next ?_
   refine WC.condS Q0 (fun h3 => ?_) (fun h3 => ?_)
   ·
    replace h3 := of_decide_eq_true h3
    refine WC.seq ?_
    refine Qm ?_
    refine Qm ?_
    refine Qm ?_
    refine WL.p Q0 (Yl.len_str str9 Q0) ?_
    refine WL.p Q0 (Yl.slice_str str9 Q0 (by exact ⟨_, by rfl⟩) (by exact rfl) Q7 Q7) ?_
    refine WL.p Q0 (Yl.build bt40 Q0 Q4) ?_
    refine WL.r Q0 (Yr.alloc hs zt40) ?_
    clear hs; rintro _ w ⟨b3, rfl, hb, hs⟩; clear hb
    refine WL.s (Yr.storeB hs Q0 Q0 Q0 Q5 Q3 Q0 (by exact szf40)) ?_
    clear hs; rintro _ w hs
    refine WL.next ?_
    refine WC.seq ?_
    refine Qm ?_
    refine WL.p Q0 (Yl.eqi Q0 Q0) ?_
    refine Qm ?_
    refine WL.split (d := 41) Q0 (fun h4 => ?_) (fun h4 => ?_)
    ·
     replace h4 := of_decide_eq_true h4
     refine WL.skip (d := 41) Q0 Q0 Q0 Q0 ?_
     refine WL.skip (d := 41) Q0 Q0 Q0 Q0 ?_
     refine WL.p Q0 (Yl.pickT Q0 Q0) ?_
     refine Qa ?_
     refine WL.next ?_
     refine WC.anyn2 (c := box b1 _ _) mixed hs (by repeat (first | exact Ext.here | apply Ext.there)) ?_
     clear hs; intro w hs
     refine WA.p (i := 0) Q0 Q6 Q6 Q6 Q0 (hs.only Q2) (fun w hs => Yl.loadAB agg40 Q0 hs Q1 Q0 Q0) ?_
     refine WA.p (i := 1) Q0 Q6 Q6 Q6 Q0 (hs.only Q2) (fun w hs => Yl.move Q0) ?_
     refine WA.p (i := 2) Q0 Q6 Q6 Q6 Q0 (hs.only Q2) (fun w hs => Yl.move Q0) ?_
     refine WA.pg (i := 3) (d := 47) Q0 Q6 Q6 Q6 Q0 Q0 Q0 (hs.only Q2) (fun w hs => Yl.fieldAddr fa40_1 Q0) ?_
     refine WA.pg (i := 4) (d := 47) Q0 Q6 Q6 Q6 Q0 Q0 Q0 (hs.only Q2) (fun w hs => Yl.loadB sca9 Q0 hs Q1 Q0) ?_
     refine WA.pg (i := 5) (d := 47) Q0 Q6 Q6 Q6 Q0 Q0 Q0 (hs.only Q2) (fun w hs => Yl.len_str str9 Q0) ?_
     refine WA.pg (i := 6) (d := 47) Q0 Q6 Q6 Q6 Q0 Q0 Q0 (hs.only Q2) (fun w hs => Yl.leq Q0 Q0) ?_
     refine WA.p (i := 7) Q0 Q6 Q6 Q6 Q0 (hs.only Q2) (fun w hs => Yl.pickT Q0 Q0) ?_
     refine WA.p (i := 8) Q0 Q6 Q6 Q6 Q0 (hs.only Q2) (fun w hs => Yl.move Q0) ?_
     refine WA.split (d := 53) Q0 (fun h5 => ?_) (fun h5 => ?_)
     ·
      replace h5 := of_decide_eq_true h5
      refine WA.skip (i := 9) (d := 53) Q0 Q6 Q6 Q6 Q0 Q0 Q0 Q0 (hs.only Q2) ?_
      refine WA.skip (i := 10) (d := 53) Q0 Q6 Q6 Q6 Q0 Q0 Q0 Q0 (hs.only Q2) ?_
      refine WA.skip (i := 11) (d := 53) Q0 Q6 Q6 Q6 Q0 Q0 Q0 Q0 (hs.only Q2) ?_
      refine WA.skipU (i := 12) (d := 56) Q0 Q6 Q6 Q6 Q0 Q0 Q0 (hs.only Q2) ?_
      refine WA.skipU (i := 13) (d := 56) Q0 Q6 Q6 Q6 Q0 Q0 Q0 (hs.only Q2) ?_
      refine WA.skipU (i := 14) (d := 56) Q0 Q6 Q6 Q6 Q0 Q0 Q0 (hs.only Q2) ?_
      refine WA.skip (i := 15) (d := 53) Q0 Q6 Q6 Q6 Q0 Q0 Q0 Q0 (hs.only Q2) ?_
      refine WA.p (i := 16) Q0 Q6 Q6 Q6 Q0 (hs.only Q2) (fun w hs => Yl.pickT Q0 Q0) ?_
      refine WA.s (i := 17) Q6 Q0 (Yr.storeB hs Q0 Q0 Q0 Q5 Q3 Q0 (by exact szf40)) (by rintro _ w hs; exact hs.only Q2) ?_
      clear hs; rintro _ w hs
      refine WA.p (i := 18) Q0 Q6 Q6 Q6 Q0 (hs.only Q2) (fun w hs => Yl.assign Q0) ?_
      refine WA.donen Q6 ?_
      refine WC.ret ?_
      refine At.blockret ?_
      refine At.thenret ?_
      refine At.thenret ?_
      refine At.blockret ?_
      refine At.thenret ?_
      refine fin2c rfl agg40 Q0 Q0 hs Q1 Q0 ?_
      refine RetP.mk hs ?_
      first
       | (have ho : opOf s = 0 := opOf_none (fun j a b => hJ2 j a Q7)
          simp only [specLine, lineIs, ho]; rfl)
       | (obtain ⟨e, e3⟩ := specLine_hit hJ1 Q7 h3 hJ2
          rw [e, e3]
          clear e e3 h3 hJ2 hd hpl hs
          generalize (s.drop (opPre (k : Int)).length).take (s.length - (opPre (k : Int)).length) = tx at *
          refine congrArg (fun b => Value.tuple #[.agg (Ph.enc (⟨(k : Int), tx⟩ : TLine)).toArray, Bo b]) ?_
          clear hwl h2 h1 hJ1
          simp only [lineGood]
          first
            | (simp_all; done)
            | (simp_all; omega))
     ·
      replace h5 := of_decide_eq_false h5
      refine WA.pg (i := 9) (d := 53) Q0 Q6 Q6 Q6 Q0 Q0 Q0 (hs.only Q2) (fun w hs => Yl.move Q0) ?_
      refine WA.pg (i := 10) (d := 53) Q0 Q6 Q6 Q6 Q0 Q0 Q0 (hs.only Q2) (fun w hs => Yl.not Q0) ?_
      refine WA.pg (i := 11) (d := 53) Q0 Q6 Q6 Q6 Q0 Q0 Q0 (hs.only Q2) (fun w hs => Yl.move Q0) ?_
      refine WA.skip (i := 12) (d := 56) Q0 Q6 Q6 Q6 Q0 Q0 Q0 Q0 (hs.only Q2) ?_
      refine WA.skip (i := 13) (d := 56) Q0 Q6 Q6 Q6 Q0 Q0 Q0 Q0 (hs.only Q2) ?_
      refine WA.skip (i := 14) (d := 56) Q0 Q6 Q6 Q6 Q0 Q0 Q0 Q0 (hs.only Q2) ?_
      refine WA.pg (i := 15) (d := 53) Q0 Q6 Q6 Q6 Q0 Q0 Q0 (hs.only Q2) (fun w hs => Yl.pickF Q0 Q0) ?_
      refine WA.p (i := 16) Q0 Q6 Q6 Q6 Q0 (hs.only Q2) (fun w hs => Yl.pickF Q0 Q0) ?_
      refine WA.s (i := 17) Q6 Q0 (Yr.storeB hs Q0 Q0 Q0 Q5 Q3 Q0 (by exact szf40)) (by rintro _ w hs; exact hs.only Q2) ?_
      clear hs; rintro _ w hs
      refine WA.p (i := 18) Q0 Q6 Q6 Q6 Q0 (hs.only Q2) (fun w hs => Yl.assign Q0) ?_
      refine WA.donen Q6 ?_
      refine WC.ret ?_
      refine At.blockret ?_
      refine At.thenret ?_
      refine At.thenret ?_
      refine At.blockret ?_
      refine At.thenret ?_
      refine fin2c rfl agg40 Q0 Q0 hs Q1 Q0 ?_
      refine RetP.mk hs ?_
      first
       | (have ho : opOf s = 0 := opOf_none (fun j a b => hJ2 j a Q7)
          simp only [specLine, lineIs, ho]; rfl)
       | (obtain ⟨e, e3⟩ := specLine_hit hJ1 Q7 h3 hJ2
          rw [e, e3]
          clear e e3 h3 hJ2 hd hpl hs
          generalize (s.drop (opPre (k : Int)).length).take (s.length - (opPre (k : Int)).length) = tx at *
          refine congrArg (fun b => Value.tuple #[.agg (Ph.enc (⟨(k : Int), tx⟩ : TLine)).toArray, Bo b]) ?_
          clear hwl h2 h1 hJ1
          simp only [lineGood]
          first
            | (simp_all; done)
            | (simp_all; omega))
    ·
     replace h4 := of_decide_eq_false h4
     refine WL.run (d := 41) Q0 Q0 ?_
     refine Qm ?_
     refine WL.run (d := 41) Q0 Q0 ?_
     refine WL.p Q0 (Yl.eqi Q0 Q0) ?_
     refine WL.p Q0 (Yl.pickF Q0 Q0) ?_
     refine Qa ?_
     refine WL.next ?_
     refine WC.anyn2 (c := box b1 _ _) mixed hs (by repeat (first | exact Ext.here | apply Ext.there)) ?_
     clear hs; intro w hs
     refine WA.p (i := 0) Q0 Q6 Q6 Q6 Q0 (hs.only Q2) (fun w hs => Yl.loadAB agg40 Q0 hs Q1 Q0 Q0) ?_
     refine WA.p (i := 1) Q0 Q6 Q6 Q6 Q0 (hs.only Q2) (fun w hs => Yl.move Q0) ?_
     refine WA.p (i := 2) Q0 Q6 Q6 Q6 Q0 (hs.only Q2) (fun w hs => Yl.move Q0) ?_
     refine WA.split (d := 47) Q0 (fun h5 => ?_) (fun h5 => ?_)
     ·
      replace h5 := of_decide_eq_true h5
      refine WA.pg (i := 3) (d := 47) Q0 Q6 Q6 Q6 Q0 Q0 Q0 (hs.only Q2) (fun w hs => Yl.fieldAddr fa40_1 Q0) ?_
      refine WA.pg (i := 4) (d := 47) Q0 Q6 Q6 Q6 Q0 Q0 Q0 (hs.only Q2) (fun w hs => Yl.loadB sca9 Q0 hs Q1 Q0) ?_
      refine WA.pg (i := 5) (d := 47) Q0 Q6 Q6 Q6 Q0 Q0 Q0 (hs.only Q2) (fun w hs => Yl.len_str str9 Q0) ?_
      refine WA.pg (i := 6) (d := 47) Q0 Q6 Q6 Q6 Q0 Q0 Q0 (hs.only Q2) (fun w hs => Yl.leq Q0 Q0) ?_
      refine WA.p (i := 7) Q0 Q6 Q6 Q6 Q0 (hs.only Q2) (fun w hs => Yl.pickT Q0 Q0) ?_
      refine WA.p (i := 8) Q0 Q6 Q6 Q6 Q0 (hs.only Q2) (fun w hs => Yl.move Q0) ?_
      refine WA.split (d := 53) Q0 (fun h6 => ?_) (fun h6 => ?_)
      ·
       replace h6 := of_decide_eq_true h6
       refine WA.skip (i := 9) (d := 53) Q0 Q6 Q6 Q6 Q0 Q0 Q0 Q0 (hs.only Q2) ?_
       refine WA.skip (i := 10) (d := 53) Q0 Q6 Q6 Q6 Q0 Q0 Q0 Q0 (hs.only Q2) ?_
       refine WA.skip (i := 11) (d := 53) Q0 Q6 Q6 Q6 Q0 Q0 Q0 Q0 (hs.only Q2) ?_
       refine WA.skipU (i := 12) (d := 56) Q0 Q6 Q6 Q6 Q0 Q0 Q0 (hs.only Q2) ?_
       refine WA.skipU (i := 13) (d := 56) Q0 Q6 Q6 Q6 Q0 Q0 Q0 (hs.only Q2) ?_
       refine WA.skipU (i := 14) (d := 56) Q0 Q6 Q6 Q6 Q0 Q0 Q0 (hs.only Q2) ?_
       refine WA.skip (i := 15) (d := 53) Q0 Q6 Q6 Q6 Q0 Q0 Q0 Q0 (hs.only Q2) ?_
       refine WA.p (i := 16) Q0 Q6 Q6 Q6 Q0 (hs.only Q2) (fun w hs => Yl.pickT Q0 Q0) ?_
       refine WA.s (i := 17) Q6 Q0 (Yr.storeB hs Q0 Q0 Q0 Q5 Q3 Q0 (by exact szf40)) (by rintro _ w hs; exact hs.only Q2) ?_
       clear hs; rintro _ w hs
       refine WA.p (i := 18) Q0 Q6 Q6 Q6 Q0 (hs.only Q2) (fun w hs => Yl.assign Q0) ?_
       refine WA.donen Q6 ?_
       refine WC.ret ?_
       refine At.blockret ?_
       refine At.thenret ?_
       refine At.thenret ?_
       refine At.blockret ?_
       refine At.thenret ?_
       refine fin2c rfl agg40 Q0 Q0 hs Q1 Q0 ?_
       refine RetP.mk hs ?_
       first
        | (have ho : opOf s = 0 := opOf_none (fun j a b => hJ2 j a Q7)
           simp only [specLine, lineIs, ho]; rfl)
        | (obtain ⟨e, e3⟩ := specLine_hit hJ1 Q7 h3 hJ2
           rw [e, e3]
           clear e e3 h3 hJ2 hd hpl hs
           generalize (s.drop (opPre (k : Int)).length).take (s.length - (opPre (k : Int)).length) = tx at *
           refine congrArg (fun b => Value.tuple #[.agg (Ph.enc (⟨(k : Int), tx⟩ : TLine)).toArray, Bo b]) ?_
           clear hwl h2 h1 hJ1
           simp only [lineGood]
           first
             | (simp_all; done)
             | (simp_all; omega))
      ·
       replace h6 := of_decide_eq_false h6
       refine WA.pg (i := 9) (d := 53) Q0 Q6 Q6 Q6 Q0 Q0 Q0 (hs.only Q2) (fun w hs => Yl.move Q0) ?_
       refine WA.pg (i := 10) (d := 53) Q0 Q6 Q6 Q6 Q0 Q0 Q0 (hs.only Q2) (fun w hs => Yl.not Q0) ?_
       refine WA.pg (i := 11) (d := 53) Q0 Q6 Q6 Q6 Q0 Q0 Q0 (hs.only Q2) (fun w hs => Yl.move Q0) ?_
       refine WA.split (d := 56) Q0 (fun h7 => ?_) (fun h7 => ?_)
       ·
        replace h7 := not_eq_true h7
        replace h7 := of_decide_eq_false h7
        refine WA.pg (i := 12) (d := 56) Q0 Q6 Q6 Q6 Q0 Q0 Q0 (hs.only Q2) (fun w hs => Yl.fieldAddr fa40_1 Q0) ?_
        refine WA.pg (i := 13) (d := 56) Q0 Q6 Q6 Q6 Q0 Q0 Q0 (hs.only Q2) (fun w hs => Yl.loadB sca9 Q0 hs Q1 Q0) ?_
        refine WA.callp2g (i := 14) (d := 56) hs (fun _ hs => hs.only Q2) Q6 Q0 Q0 Q0 Q0 (Yc.func Q0 fn34) (c_spec_IsName _ _ (by first | assumption | (refine Ph.old ?_ hs; assumption) | (show WfS _; unfold WfS; simp only [List.length_take, List.length_drop]; omega))) ?_
        clear hs; intro w hs
        refine WA.pg (i := 15) (d := 53) Q0 Q6 Q6 Q6 Q0 Q0 Q0 (hs.only Q2) (fun w hs => Yl.pickT Q0 Q0) ?_
        refine WA.p (i := 16) Q0 Q6 Q6 Q6 Q0 (hs.only Q2) (fun w hs => Yl.pickF Q0 Q0) ?_
        refine WA.s (i := 17) Q6 Q0 (Yr.storeB hs Q0 Q0 Q0 Q5 Q3 Q0 (by exact szf40)) (by rintro _ w hs; exact hs.only Q2) ?_
        clear hs; rintro _ w hs
        refine WA.p (i := 18) Q0 Q6 Q6 Q6 Q0 (hs.only Q2) (fun w hs => Yl.assign Q0) ?_
        refine WA.donen Q6 ?_
        refine WC.ret ?_
        refine At.blockret ?_
        refine At.thenret ?_
        refine At.thenret ?_
        refine At.blockret ?_
        refine At.thenret ?_
        refine fin2c rfl agg40 Q0 Q0 hs Q1 Q0 ?_
        refine RetP.mk hs ?_
        first
         | (have ho : opOf s = 0 := opOf_none (fun j a b => hJ2 j a Q7)
            simp only [specLine, lineIs, ho]; rfl)
         | (obtain ⟨e, e3⟩ := specLine_hit hJ1 Q7 h3 hJ2
            rw [e, e3]
            clear e e3 h3 hJ2 hd hpl hs
            generalize (s.drop (opPre (k : Int)).length).take (s.length - (opPre (k : Int)).length) = tx at *
            refine congrArg (fun b => Value.tuple #[.agg (Ph.enc (⟨(k : Int), tx⟩ : TLine)).toArray, Bo b]) ?_
            clear hwl h2 h1 hJ1
            simp only [lineGood]
            first
              | (simp_all; done)
              | (simp_all; omega))
       ·
        replace h7 := not_eq_false h7
        replace h7 := of_decide_eq_true h7
        refine WA.skip (i := 12) (d := 56) Q0 Q6 Q6 Q6 Q0 Q0 Q0 Q0 (hs.only Q2) ?_
        refine WA.skip (i := 13) (d := 56) Q0 Q6 Q6 Q6 Q0 Q0 Q0 Q0 (hs.only Q2) ?_
        refine WA.skip (i := 14) (d := 56) Q0 Q6 Q6 Q6 Q0 Q0 Q0 Q0 (hs.only Q2) ?_
        refine WA.pg (i := 15) (d := 53) Q0 Q6 Q6 Q6 Q0 Q0 Q0 (hs.only Q2) (fun w hs => Yl.pickF Q0 Q0) ?_
        refine WA.p (i := 16) Q0 Q6 Q6 Q6 Q0 (hs.only Q2) (fun w hs => Yl.pickF Q0 Q0) ?_
        refine WA.s (i := 17) Q6 Q0 (Yr.storeB hs Q0 Q0 Q0 Q5 Q3 Q0 (by exact szf40)) (by rintro _ w hs; exact hs.only Q2) ?_
        clear hs; rintro _ w hs
        refine WA.p (i := 18) Q0 Q6 Q6 Q6 Q0 (hs.only Q2) (fun w hs => Yl.assign Q0) ?_
        refine WA.donen Q6 ?_
        refine WC.ret ?_
        refine At.blockret ?_
        refine At.thenret ?_
        refine At.thenret ?_
        refine At.blockret ?_
        refine At.thenret ?_
        refine fin2c rfl agg40 Q0 Q0 hs Q1 Q0 ?_
        refine RetP.mk hs ?_
        first
         | (have ho : opOf s = 0 := opOf_none (fun j a b => hJ2 j a Q7)
            simp only [specLine, lineIs, ho]; rfl)
         | (obtain ⟨e, e3⟩ := specLine_hit hJ1 Q7 h3 hJ2
            rw [e, e3]
            clear e e3 h3 hJ2 hd hpl hs
            generalize (s.drop (opPre (k : Int)).length).take (s.length - (opPre (k : Int)).length) = tx at *
            refine congrArg (fun b => Value.tuple #[.agg (Ph.enc (⟨(k : Int), tx⟩ : TLine)).toArray, Bo b]) ?_
            clear hwl h2 h1 hJ1
            simp only [lineGood]
            first
              | (simp_all; done)
              | (simp_all; omega))
     ·
      replace h5 := of_decide_eq_false h5
      refine WA.skip (i := 3) (d := 47) Q0 Q6 Q6 Q6 Q0 Q0 Q0 Q0 (hs.only Q2) ?_
      refine WA.skip (i := 4) (d := 47) Q0 Q6 Q6 Q6 Q0 Q0 Q0 Q0 (hs.only Q2) ?_
      refine WA.skip (i := 5) (d := 47) Q0 Q6 Q6 Q6 Q0 Q0 Q0 Q0 (hs.only Q2) ?_
      refine WA.skip (i := 6) (d := 47) Q0 Q6 Q6 Q6 Q0 Q0 Q0 Q0 (hs.only Q2) ?_
      refine WA.p (i := 7) Q0 Q6 Q6 Q6 Q0 (hs.only Q2) (fun w hs => Yl.pickF Q0 Q0) ?_
      refine WA.p (i := 8) Q0 Q6 Q6 Q6 Q0 (hs.only Q2) (fun w hs => Yl.move Q0) ?_
      refine WA.pg (i := 9) (d := 53) Q0 Q6 Q6 Q6 Q0 Q0 Q0 (hs.only Q2) (fun w hs => Yl.move Q0) ?_
      refine WA.pg (i := 10) (d := 53) Q0 Q6 Q6 Q6 Q0 Q0 Q0 (hs.only Q2) (fun w hs => Yl.not Q0) ?_
      refine WA.pg (i := 11) (d := 53) Q0 Q6 Q6 Q6 Q0 Q0 Q0 (hs.only Q2) (fun w hs => Yl.move Q0) ?_
      refine WA.split (d := 56) Q0 (fun h6 => ?_) (fun h6 => ?_)
      ·
       replace h6 := not_eq_true h6
       replace h6 := of_decide_eq_false h6
       refine WA.pg (i := 12) (d := 56) Q0 Q6 Q6 Q6 Q0 Q0 Q0 (hs.only Q2) (fun w hs => Yl.fieldAddr fa40_1 Q0) ?_
       refine WA.pg (i := 13) (d := 56) Q0 Q6 Q6 Q6 Q0 Q0 Q0 (hs.only Q2) (fun w hs => Yl.loadB sca9 Q0 hs Q1 Q0) ?_
       refine WA.callp2g (i := 14) (d := 56) hs (fun _ hs => hs.only Q2) Q6 Q0 Q0 Q0 Q0 (Yc.func Q0 fn34) (c_spec_IsName _ _ (by first | assumption | (refine Ph.old ?_ hs; assumption) | (show WfS _; unfold WfS; simp only [List.length_take, List.length_drop]; omega))) ?_
       clear hs; intro w hs
       refine WA.pg (i := 15) (d := 53) Q0 Q6 Q6 Q6 Q0 Q0 Q0 (hs.only Q2) (fun w hs => Yl.pickT Q0 Q0) ?_
       refine WA.p (i := 16) Q0 Q6 Q6 Q6 Q0 (hs.only Q2) (fun w hs => Yl.pickF Q0 Q0) ?_
       refine WA.s (i := 17) Q6 Q0 (Yr.storeB hs Q0 Q0 Q0 Q5 Q3 Q0 (by exact szf40)) (by rintro _ w hs; exact hs.only Q2) ?_
       clear hs; rintro _ w hs
       refine WA.p (i := 18) Q0 Q6 Q6 Q6 Q0 (hs.only Q2) (fun w hs => Yl.assign Q0) ?_
       refine WA.donen Q6 ?_
       refine WC.ret ?_
       refine At.blockret ?_
       refine At.thenret ?_
       refine At.thenret ?_
       refine At.blockret ?_
       refine At.thenret ?_
       refine fin2c rfl agg40 Q0 Q0 hs Q1 Q0 ?_
       refine RetP.mk hs ?_
       first
        | (have ho : opOf s = 0 := opOf_none (fun j a b => hJ2 j a Q7)
           simp only [specLine, lineIs, ho]; rfl)
        | (obtain ⟨e, e3⟩ := specLine_hit hJ1 Q7 h3 hJ2
           rw [e, e3]
           clear e e3 h3 hJ2 hd hpl hs
           generalize (s.drop (opPre (k : Int)).length).take (s.length - (opPre (k : Int)).length) = tx at *
           refine congrArg (fun b => Value.tuple #[.agg (Ph.enc (⟨(k : Int), tx⟩ : TLine)).toArray, Bo b]) ?_
           clear hwl h2 h1 hJ1
           simp only [lineGood]
           first
             | (simp_all; done)
             | (simp_all; omega))
      ·
       replace h6 := not_eq_false h6
       replace h6 := of_decide_eq_true h6
       refine WA.skip (i := 12) (d := 56) Q0 Q6 Q6 Q6 Q0 Q0 Q0 Q0 (hs.only Q2) ?_
       refine WA.skip (i := 13) (d := 56) Q0 Q6 Q6 Q6 Q0 Q0 Q0 Q0 (hs.only Q2) ?_
       refine WA.skip (i := 14) (d := 56) Q0 Q6 Q6 Q6 Q0 Q0 Q0 Q0 (hs.only Q2) ?_
       refine WA.pg (i := 15) (d := 53) Q0 Q6 Q6 Q6 Q0 Q0 Q0 (hs.only Q2) (fun w hs => Yl.pickF Q0 Q0) ?_
       refine WA.p (i := 16) Q0 Q6 Q6 Q6 Q0 (hs.only Q2) (fun w hs => Yl.pickF Q0 Q0) ?_
       refine WA.s (i := 17) Q6 Q0 (Yr.storeB hs Q0 Q0 Q0 Q5 Q3 Q0 (by exact szf40)) (by rintro _ w hs; exact hs.only Q2) ?_
       clear hs; rintro _ w hs
       refine WA.p (i := 18) Q0 Q6 Q6 Q6 Q0 (hs.only Q2) (fun w hs => Yl.assign Q0) ?_
       refine WA.donen Q6 ?_
       refine WC.ret ?_
       refine At.blockret ?_
       refine At.thenret ?_
       refine At.thenret ?_
       refine At.blockret ?_
       refine At.thenret ?_
       refine fin2c rfl agg40 Q0 Q0 hs Q1 Q0 ?_
       refine RetP.mk hs ?_
       first
        | (have ho : opOf s = 0 := opOf_none (fun j a b => hJ2 j a Q7)
           simp only [specLine, lineIs, ho]; rfl)
        | (obtain ⟨e, e3⟩ := specLine_hit hJ1 Q7 h3 hJ2
           rw [e, e3]
           clear e e3 h3 hJ2 hd hpl hs
           generalize (s.drop (opPre (k : Int)).length).take (s.length - (opPre (k : Int)).length) = tx at *
           refine congrArg (fun b => Value.tuple #[.agg (Ph.enc (⟨(k : Int), tx⟩ : TLine)).toArray, Bo b]) ?_
           clear hwl h2 h1 hJ1
           simp only [lineGood]
           first
             | (simp_all; done)
             | (simp_all; omega))
   ·
    replace h3 := of_decide_eq_false h3
    refine WC.skip ?_
    refine At.blocknormal ?_
    refine At.then_ ?_
    refine WC.region ?_
    refine Qm ?_
    refine WL.p Q0 (Yl.add Q0 Q0 Q7) ?_
    refine Qa ?_
    refine WL.nil ?_
    refine At.roundC (k + 1) (hs.only Q2) ⟨by rfl, by rfl, by rfl, trivial⟩ ⟨by rfl, trivial⟩ ?_ ?_
    ·
     show 6 - (k + 1) < 6 - k
     omega
    ·
     refine ⟨by omega, fun j a b => ?_⟩
     by_cases hjk : j = (k : Int)
     · subst hjk
       cases hp : (opPre (k : Int)).isPrefixOf s with
       | false => rfl
       | true =>
        exfalso
        rw [List.isPrefixOf_iff_prefix] at hp
        have hp1 := hp.length_le
        have hp2 := List.prefix_iff_eq_take.1 hp
        first
         | omega
         | exact h3 (by simpa using hp2.symm)
     · exact hJ2 j a Q7
  ·
   replace h2 := of_decide_eq_false h2
   refine WL.skip (d := 25) Q0 Q0 Q0 Q0 ?_
   refine WL.skip (d := 25) Q0 Q0 Q0 Q0 ?_
   refine WL.skip (d := 25) Q0 Q0 Q0 Q0 ?_
   refine WL.skip (d := 25) Q0 Q0 Q0 Q0 ?_
   refine WL.skip (d := 25) Q0 Q0 Q0 Q0 ?_
   refine WL.skip (d := 25) Q0 Q0 Q0 Q0 ?_
   refine WL.p Q0 (Yl.pickF Q0 Q0) ?_
   refine WL.next ?_
   refine WC.condF Q0 ?_
   refine WC.skip ?_
   refine At.blocknormal ?_
   refine At.then_ ?_
   refine WC.region ?_
   refine Qm ?_
   refine WL.p Q0 (Yl.add Q0 Q0 Q7) ?_
   refine Qa ?_
   refine WL.nil ?_
   refine At.roundC (k + 1) (hs.only Q2) ⟨by rfl, by rfl, by rfl, trivial⟩ ⟨by rfl, trivial⟩ ?_ ?_
   ·
    show 6 - (k + 1) < 6 - k
    omega
   ·
    refine ⟨by omega, fun j a b => ?_⟩
    by_cases hjk : j = (k : Int)
    · subst hjk
      cases hp : (opPre (k : Int)).isPrefixOf s with
      | false => rfl
      | true =>
       exfalso
       rw [List.isPrefixOf_iff_prefix] at hp
       have hp1 := hp.length_le
       have hp2 := List.prefix_iff_eq_take.1 hp
       first
        | omega
        | exact h3 (by simpa using hp2.symm)
    · exact hJ2 j a Q7
 ·
  replace h1 := of_decide_eq_false h1
  refine WC.exit ?_
  refine At.thenexit ?_
  refine At.thenexit ?_
  refine At.blockexit ?_
  refine At.then_ ?_
  refine WC.seq ?_
  refine WL.p Q0 (Yl.build bt40 Q0 Q4) ?_
  refine WL.s (Yr.storeB hs Q0 Q0 Q0 Q5 Q3 Q0 (by exact szf40)) ?_
  clear hs; rintro _ w hs
  refine Qa ?_
  refine WL.next ?_
  refine WC.ret ?_
  refine fin2c rfl agg40 Q0 Q0 hs Q1 Q0 ?_
  refine RetP.mk hs ?_
  first
   | (have ho : opOf s = 0 := opOf_none (fun j a b => hJ2 j a Q7)
      simp only [specLine, lineIs, ho]; rfl)
   | (obtain ⟨e, e3⟩ := specLine_hit hJ1 Q7 h3 hJ2
      rw [e, e3]
      clear e e3 h3 hJ2 hd hpl hs
      generalize (s.drop (opPre (k : Int)).length).take (s.length - (opPre (k : Int)).length) = tx at *
      refine congrArg (fun b => Value.tuple #[.agg (Ph.enc (⟨(k : Int), tx⟩ : TLine)).toArray, Bo b]) ?_
      clear hwl h2 h1 hJ1
      simp only [lineGood]
      first
        | (simp_all; done)
        | (simp_all; omega))

theorem c_spec_ParseScript (s : Str) (w : World)  (hb : s.length ≤ 2097152) : Calls Tryz.prog 7 [S s].toArray w (Ret w (fun v w' => ∃ x : Sl TLine, v = .tuple #[x.v, Bo (scriptIs s)] ∧ x.l = scriptLines s ∧ Fresh w x w')) := by
 refine enterN 42 Tryz.func7 rfl rfl rfl ?_
 have hs := Sat.start w
 refine WC.seq ?_
 refine Qa ?_
 refine Qa ?_
 refine WL.next ?_
 refine WC.seq ?_
 refine WL.r Q0 (Yr.buildSlice hs sll25 Q0 Q0 Q0 Q4 Q0) ?_
 clear hs; rintro _ w ⟨b1, rfl, hb, hs⟩; clear hb
 refine Qa ?_
 refine WL.next ?_
 refine WC.seq' ?_
 refine WC.seq ?_
 refine Qm ?_
 refine WL.p Q0 (Yl.eqs Q0 Q0) ?_
 refine WL.next ?_
 refine WC.condS Q0 (fun h1 => ?_) (fun h1 => ?_)
 ·
  replace h1 := of_decide_eq_true h1
  refine WC.seq ?_
  refine Qm ?_
  refine Qa ?_
  refine Qa ?_
  refine WL.next ?_
  refine WC.ret ?_
  refine At.thenret ?_
  refine fin2' rfl Q0 Q0 ?_
  refine Ret.mk hs ?_
  replace hs := Sat.boxow (l := ([] : List TLine)) (hs.sel (D := [box b1 _ _]) Q2) rfl rfl (by simp) (ownL_mk_flat (by simp))
  first
   | exact ⟨⟨[], some ⟨b1, 0, none⟩, 0⟩, by rw [scriptIs_nil h1]; rfl, (scriptLines_nil h1).symm, hs.fresh List.mem_cons_self⟩
   | (replace hx2 : x2.l = splitC 59 s := hx2
      have hb9 : scriptIs s = false := by
        cases hld : lineIs d with
        | false => exact scriptIs_bad h1 (k := k) (d := d) (by rw [← hx2]; exact hd) hld
        | true =>
          refine scriptIs_long h1 ?_
          rw [← hx2]
          first
            | omega
            | (exfalso; simp_all; done)
      exact ⟨⟨[], some ⟨b1, 0, none⟩, 0⟩, by rw [hb9]; rfl, (scriptLines_bad hb9).symm, hs.fresh List.mem_cons_self⟩)
 ·
  replace h1 := of_decide_eq_false h1
  refine WC.skipn ?_
  refine WC.seq ?_
  refine Qm ?_
  refine WL.call hs Q0 (Yc.func Q0 fn21) (c_spec_l5Split _ 59 _ Q10) ?_
  have hs0 := hs; clear hs; intro v w hb hR hs; clear hs
  obtain ⟨x2, rfl, hx2, hf2⟩ := hR
  obtain ⟨F2, hs⟩ := hf2.sat hs0 hb; clear hs0 hf2
  have hle2 := Sl.Ok.le (hs.okow (x := x2) (F := F2) Q1)
  refine Qa ?_
  refine WL.next ?_
  refine WC.seq' ?_
  refine WC.seq ?_
  refine Qa ?_
  refine WL.next ?_
  refine WC.block ?_
  replace hs := Sat.boxow (l := ([] : List TLine)) (hs.sel (D := [box b1 _ _]) Q2) rfl rfl (by simp) (ownL_mk_flat (by simp))
  refine WC.loopC (ι := Nat × Sl TLine × List Nat) (fun ⟨k, q, F⟩ => x2.l.length - k) (fun ⟨k, q, F⟩ => [(6, I (k : Int)), (4, q.v)]) (fun ⟨k, q, F⟩ => [ow q F, ow x2 F2]) (fun ⟨k, q, F⟩ => k ≤ x2.l.length ∧ q.l = (x2.l.take k).map specLine ∧ (x2.l.take k).all lineIs = true ∧ (0 < k → x2.l.length ≤ 6)) [(0, _), (5, _), (11, _)] (0, ⟨[], some ⟨b1, 0, none⟩, 0⟩, [b1]) (hs.sel (D := [ow (⟨[], some ⟨b1, 0, none⟩, 0⟩ : Sl TLine) [b1], ow x2 F2]) Q2) ⟨by rfl, by rfl, by rfl, trivial⟩ ⟨by rfl, by rfl, trivial⟩ ?_ ?_
  ·
   exact ⟨Nat.zero_le _, rfl, rfl, fun h => absurd h Q7⟩
  clear hs; rintro ⟨k, q, F⟩ w ⟨hJ1, hJ2, hJ3, hJ4⟩ hs
  simp only [List.cons_append, List.nil_append] at hs
  have hxl : x2.l.length ≤ s.length + 1 := by rw [hx2]; exact splitC_len _ _
  refine WC.seq' ?_
  refine WC.seq ?_
  refine Qm ?_
  refine Qm ?_
  refine WL.p Q0 (Yl.len_sl slu36 Q0) ?_
  refine WL.p Q0 (Yl.lss Q0 Q0) ?_
  refine WL.next ?_
  refine WC.condS Q0 (fun h2 => ?_) (fun h2 => ?_)
  ·
   replace h2 := of_decide_eq_true h2
   obtain ⟨d, hd⟩ := exists_get (l := x2.l) (k := k) Q7
   have hdl : d.length ≤ s.length := splitC_mem_le (b := 59) (by rw [← hx2]; exact List.mem_of_getElem? hd)
   refine WC.skipn ?_
   refine WC.seq' ?_
   refine WC.block ?_
   refine WC.seq ?_
   refine Qm ?_
   refine Qm ?_
   refine WL.p Q0 (Yl.indexAddr slt36 Q0 Q0 (hs.okow (x := x2) (F := F2) Q1) Q0 (hd)) ?_
   refine WL.p Q0 (Yl.loadC0 sca9 Q0 (Sl.Ok.at_ (hs.okow (x := x2) (F := F2) Q1) (by assumption)).2 Q0) ?_
   refine WL.callp hs Q0 (Yc.func Q0 fn22) (c_spec_l8Line _ _ (Sl.Ok.elem (hs.okow (x := x2) (F := F2) Q1) hd) Q7) ?_
   clear hs; intro w hs
   refine Qm ?_
   refine WL.p Q0 (Yl.extract Q0 Q0) ?_
   refine WL.p Q0 (Yl.extract Q0 Q0) ?_
   refine WL.r Q0 (Yr.alloc hs zt40) ?_
   clear hs; rintro _ w ⟨b3, rfl, hb, hs⟩; clear hb
   refine WL.s (Yr.storeB hs Q0 Q0 Q0 Q5 Q3 Q0 (by exact szf40)) ?_
   clear hs; rintro _ w hs
   refine Qa ?_
   refine WL.next ?_
   refine WC.seq' ?_
   refine WC.seq ?_
   refine Qm ?_
   refine WL.p Q0 (Yl.not Q0) ?_
   refine Qm ?_
   refine WL.split (d := 31) Q0 (fun h3 => ?_) (fun h3 => ?_)
   ·
    replace h3 := not_eq_true h3
    refine WL.skip (d := 31) Q0 Q0 Q0 Q0 ?_
    refine WL.skip (d := 31) Q0 Q0 Q0 Q0 ?_
    refine WL.skip (d := 31) Q0 Q0 Q0 Q0 ?_
    refine WL.p Q0 (Yl.pickT Q0 Q0) ?_
    refine WL.next ?_
    refine WC.condT Q0 ?_
    refine WC.seq ?_
    refine WL.r Q0 (Yr.buildSlice hs sll25 Q0 Q0 Q0 Q4 Q0) ?_
    clear hs; rintro _ w ⟨b4, rfl, hb, hs⟩; clear hb
    refine Qa ?_
    refine Qa ?_
    refine WL.next ?_
    refine WC.ret ?_
    refine At.thenret ?_
    refine At.blockret ?_
    refine At.thenret ?_
    refine At.thenret ?_
    refine At.blockret ?_
    refine At.thenret ?_
    refine fin2' rfl Q0 Q0 ?_
    refine Ret.mk hs ?_
    replace hs := Sat.boxow (l := ([] : List TLine)) (hs.sel (D := [box b4 _ _]) Q2) rfl rfl (by simp) (ownL_mk_flat (by simp))
    first
     | exact ⟨⟨[], some ⟨b4, 0, none⟩, 0⟩, by rw [scriptIs_nil h1]; rfl, (scriptLines_nil h1).symm, hs.fresh List.mem_cons_self⟩
     | (replace hx2 : x2.l = splitC 59 s := hx2
        have hb9 : scriptIs s = false := by
          cases hld : lineIs d with
          | false => exact scriptIs_bad h1 (k := k) (d := d) (by rw [← hx2]; exact hd) hld
          | true =>
            refine scriptIs_long h1 ?_
            rw [← hx2]
            first
              | omega
              | (exfalso; simp_all; done)
        exact ⟨⟨[], some ⟨b4, 0, none⟩, 0⟩, by rw [hb9]; rfl, (scriptLines_bad hb9).symm, hs.fresh List.mem_cons_self⟩)
   ·
    replace h3 := not_eq_false h3
    refine WL.run (d := 31) Q0 Q0 ?_
    refine Qm ?_
    refine WL.run (d := 31) Q0 Q0 ?_
    refine WL.p Q0 (Yl.len_sl slu36 Q0) ?_
    refine WL.run (d := 31) Q0 Q0 ?_
    refine WL.p Q0 (Yl.gtr Q0 Q0) ?_
    refine WL.p Q0 (Yl.pickF Q0 Q0) ?_
    refine WL.next ?_
    refine WC.condS Q0 (fun h4 => ?_) (fun h4 => ?_)
    ·
     replace h4 := of_decide_eq_true h4
     refine WC.seq ?_
     refine WL.r Q0 (Yr.buildSlice hs sll25 Q0 Q0 Q0 Q4 Q0) ?_
     clear hs; rintro _ w ⟨b5, rfl, hb, hs⟩; clear hb
     refine Qa ?_
     refine Qa ?_
     refine WL.next ?_
     refine WC.ret ?_
     refine At.thenret ?_
     refine At.blockret ?_
     refine At.thenret ?_
     refine At.thenret ?_
     refine At.blockret ?_
     refine At.thenret ?_
     refine fin2' rfl Q0 Q0 ?_
     refine Ret.mk hs ?_
     replace hs := Sat.boxow (l := ([] : List TLine)) (hs.sel (D := [box b5 _ _]) Q2) rfl rfl (by simp) (ownL_mk_flat (by simp))
     first
      | exact ⟨⟨[], some ⟨b5, 0, none⟩, 0⟩, by rw [scriptIs_nil h1]; rfl, (scriptLines_nil h1).symm, hs.fresh List.mem_cons_self⟩
      | (replace hx2 : x2.l = splitC 59 s := hx2
         have hb9 : scriptIs s = false := by
           cases hld : lineIs d with
           | false => exact scriptIs_bad h1 (k := k) (d := d) (by rw [← hx2]; exact hd) hld
           | true =>
             refine scriptIs_long h1 ?_
             rw [← hx2]
             first
               | omega
               | (exfalso; simp_all; done)
         exact ⟨⟨[], some ⟨b5, 0, none⟩, 0⟩, by rw [hb9]; rfl, (scriptLines_bad hb9).symm, hs.fresh List.mem_cons_self⟩)
    ·
     replace h4 := of_decide_eq_false h4
     refine WC.skipn ?_
     refine WC.region ?_
     refine Qm ?_
     refine WL.p Q0 (Yl.loadAB agg40 Q0 hs Q1 Q0 Q0) ?_
     refine WL.r Q0 (Yr.buildSlice hs sll25 Q0 Q0 Q0 Q4 Q0) ?_
     clear hs; rintro _ w ⟨b6, rfl, hb, hs⟩; clear hb
     refine WL.r Q0 (Yr.append (s := q) (F := F) hs elt25 Q2 Q0 Q0 rfl (xs := [specLine d]) (hs.box_cells Q1) (by intro x hx; obtain rfl := List.mem_singleton.1 hx; exact specLine_ok Q7) (by rw [hJ2]; simp; unfold maxLen; omega) (by rw [hJ2]; simp; omega)) ?_
     clear hs; rintro _ w ⟨s7, F7, rfl, hl7, hs⟩
     refine Qa ?_
     refine WL.nil ?_
     refine At.blocknormal ?_
     refine At.then_ ?_
     refine WC.region ?_
     refine Qm ?_
     refine WL.p Q0 (Yl.add Q0 Q0 Q7) ?_
     refine Qa ?_
     refine WL.nil ?_
     refine At.roundC (k + 1, s7, F7) (hs.only Q2) ⟨by rfl, by rfl, by rfl, trivial⟩ ⟨by rfl, by rfl, trivial⟩ ?_ ?_
     ·
      show x2.l.length - (k + 1) < x2.l.length - k
      omega
     ·
      exact ⟨by omega, by rw [hl7, hJ2]; exact map_step hd, all_step hd hJ3 (by simp_all), fun _ => by omega⟩
  ·
   replace h2 := of_decide_eq_false h2
   refine WC.exit ?_
   refine At.thenexit ?_
   refine At.thenexit ?_
   refine At.blockexit ?_
   refine At.then_ ?_
   refine WC.seq ?_
   refine Qm ?_
   refine Qa ?_
   refine Qa ?_
   refine WL.next ?_
   refine WC.ret ?_
   refine fin2' rfl Q0 Q0 ?_
   refine Ret.mk hs ?_
   replace hx2 : x2.l = splitC 59 s := hx2
   have hk : k = x2.l.length := by omega
   have hne : 0 < (splitC 59 s).length := List.length_pos_iff.2 (splitC_ne 59 s)
   rw [hk, List.take_length] at hJ2 hJ3
   rw [hx2] at hJ2 hJ3
   have hg9 : scriptIs s = true := scriptIs_good hJ3 (by first | (rw [← hx2]; exact hJ4 (by rw [hk, hx2]; exact hne)) | (rw [← hx2, ← hk]; exact hJ4))
   exact ⟨q, by rw [hg9], by rw [scriptLines_good h1 hg9, hJ2], hs.fresh Q1⟩

theorem c_strings_Join (elems : (Sl Str)) (sep : Str) (w : World) (h_elems : Ph.ok w elems) (h1 : elems.l.length ≤ 140737488355328) (h2 : (joinS elems.l sep).length ≤ 140737488355328) : Calls Tryz.prog 24 [Sl.v elems, S sep].toArray w (RetP w (S (joinS elems.l sep))) := by
 exact join_calls Tryz.strings_Join_none Tryz.strings_Join elems sep w h_elems h1 h2

theorem c_impl_FormatScript (l : (Sl TLine)) (w : World) (h_l : Ph.ok w l) (hb : lsz TLine.size l.l ≤ 1048576) : Calls Tryz.prog 8 [Sl.v l].toArray w (RetP w (S (fmtScript l.l))) := by
 have hw := h_l.lt
 have hlz : lsz TLine.size l.l = l.l.length + lsum TLine.size l.l := rfl
 refine enterN 30 Tryz.func8 rfl rfl rfl ?_
 have hs := Sat.start w
 refine WC.seq ?_
 refine Qa ?_
 refine WL.next ?_
 refine WC.seq ?_
 refine WL.r Q0 (Yr.buildSlice hs sll36 Q0 Q0 Q0 Q4 Q0) ?_
 clear hs; rintro _ w ⟨b1, rfl, hb, hs⟩; clear hb
 refine Qa ?_
 refine WL.next ?_
 refine WC.seq' ?_
 refine WC.seq ?_
 refine Qm ?_
 refine WL.p Q0 (Yl.len_sl slu25 Q0) ?_
 refine Qm ?_
 refine WL.next ?_
 refine WC.block ?_
 replace hs := Sat.boxow (l := ([] : List Str)) hs rfl rfl (by simp) (ownL_mk_flat (by simp))
 refine WC.loopC (ι := Nat × Sl Str × List Nat) (fun ⟨k, s, F⟩ => l.l.length - k) (fun ⟨k, s, F⟩ => [(10, I (k : Int)), (3, s.v)]) (fun ⟨k, s, F⟩ => [ow s F]) (fun ⟨k, s, F⟩ => k ≤ l.l.length ∧ s.l = scriptParts (l.l.take k)) [(0, _), (2, _), (8, _), (9, _)] (0, ⟨[], some ⟨b1, 0, none⟩, 0⟩, [b1]) (hs.sel (D := [ow (⟨[], some ⟨b1, 0, none⟩, 0⟩ : Sl Str) [b1]]) Q2) ⟨by rfl, by rfl, by rfl, by rfl, trivial⟩ ⟨by rfl, by rfl, trivial⟩ ?_ ?_
 ·
  exact ⟨Nat.zero_le _, rfl⟩
 clear hs; rintro ⟨k, s, F⟩ w ⟨hJ1, hJ2⟩ hs
 simp only [List.cons_append, List.nil_append] at hs
 refine WC.seq ?_
 refine WL.p Q0 (Yl.lss Q0 Q0) ?_
 refine WL.next ?_
 refine WC.seq' ?_
 refine WC.condS Q0 (fun h1 => ?_) (fun h1 => ?_)
 ·
  replace h1 := of_decide_eq_true h1
  obtain ⟨d, hd⟩ := exists_get (l := l.l) (k := k) Q7
  have hdl := lsum_le (f := TLine.size) (List.mem_of_getElem? hd)
  have hwl := opWord_len d.op
  refine WC.skipn ?_
  refine WC.seq' ?_
  refine WC.block ?_
  refine WC.seq ?_
  refine WL.p Q0 (Yl.indexAddr slt25 Q0 Q0 (Ph.old h_l hs) Q0 (hd)) ?_
  refine WL.p Q0 (Yl.loadA agg40 Q0 (Sl.Ok.at_ (Ph.old h_l hs) (by assumption)).2 Q0) ?_
  refine WL.r Q0 (Yr.alloc hs zt40) ?_
  clear hs; rintro _ w ⟨b2, rfl, hb, hs⟩; clear hb
  refine WL.s (Yr.storeB hs Q0 Q0 Q0 Q5 Q3 Q0 (by exact szf40)) ?_
  clear hs; rintro _ w hs
  refine WL.next ?_
  refine WC.seq ?_
  refine WL.p Q0 (Yl.fieldAddr fa40_0 Q0) ?_
  refine WL.p Q0 (Yl.loadB sca3 Q0 hs Q1 Q0) ?_
  refine WL.callp hs Q0 (Yc.func Q0 fn23) (c_impl_opWord _ _) ?_
  clear hs; intro w hs
  refine Qa ?_
  refine WL.next ?_
  refine WC.seq ?_
  refine Qm ?_
  refine WL.p Q0 (Yl.nes Q0 Q0) ?_
  refine WL.next ?_
  refine WC.condS Q0 (fun h2 => ?_) (fun h2 => ?_)
  ·
   replace h2 := not_eq_true h2
   replace h2 := of_decide_eq_false h2
   refine WC.region ?_
   refine Qm ?_
   refine Qm ?_
   refine WL.p Q0 (Yl.cat Q0 Q0 (by simp only [List.length_append, List.length_cons, List.length_nil, TLine.size] at *; omega)) ?_
   refine WL.p Q0 (Yl.fieldAddr fa40_1 Q0) ?_
   refine WL.p Q0 (Yl.loadB sca9 Q0 hs Q1 Q0) ?_
   refine WL.p Q0 (Yl.cat Q0 Q0 (by simp only [List.length_append, List.length_cons, List.length_nil, TLine.size] at *; omega)) ?_
   refine WL.r Q0 (Yr.buildSlice hs sll36 Q0 Q0 Q0 Q4 Q0) ?_
   clear hs; rintro _ w ⟨b3, rfl, hb, hs⟩; clear hb
   refine WL.r Q0 (Yr.append (s := s) (F := F) hs elt36 Q2 Q0 Q0 rfl (xs := [(opWord d.op ++ [32] ++ d.text)]) (hs.box_cells Q1) (by intro x hx; obtain rfl := List.mem_singleton.1 hx; show WfS _; unfold WfS; simp only [List.length_append, List.length_cons, List.length_nil, TLine.size] at *; omega) (by have := scriptParts_len (l.l.take k); rw [hJ2]; simp at *; unfold maxLen; omega) (by have := scriptParts_len (l.l.take k); rw [hJ2]; simp at *; omega)) ?_
   clear hs; rintro _ w ⟨s4, F4, rfl, hl4, hs⟩
   refine Qa ?_
   refine WL.nil ?_
   refine At.blocknormal ?_
   refine At.then_ ?_
   refine WC.region ?_
   refine WL.p Q0 (Yl.add Q0 Q0 (by simp only [List.length_append, List.length_cons, List.length_nil, TLine.size] at *; omega)) ?_
   refine Qm ?_
   refine WL.nil ?_
   refine At.roundC (k + 1, s4, F4) (hs.only Q2) ⟨by rfl, by rfl, by rfl, by rfl, trivial⟩ ⟨by rfl, by rfl, trivial⟩ ?_ ?_
   ·
    show l.l.length - (k + 1) < l.l.length - k
    omega
   ·
    exact ⟨by omega, by rw [hl4, hJ2]; exact scriptParts_yes hd (by by_cases h : 1 ≤ d.op ∧ d.op ≤ 5; exact h; exact absurd ((opWord_nil _).2 h) h2)⟩
  ·
   replace h2 := not_eq_false h2
   replace h2 := of_decide_eq_true h2
   refine WC.skip ?_
   refine At.blocknormal ?_
   refine At.then_ ?_
   refine WC.region ?_
   refine WL.p Q0 (Yl.add Q0 Q0 (by simp only [List.length_append, List.length_cons, List.length_nil, TLine.size] at *; omega)) ?_
   refine Qm ?_
   refine WL.nil ?_
   refine At.roundC (k + 1, s, F) (hs.only Q2) ⟨by rfl, by rfl, by rfl, by rfl, trivial⟩ ⟨by rfl, by rfl, trivial⟩ ?_ ?_
   ·
    show l.l.length - (k + 1) < l.l.length - k
    omega
   ·
    exact ⟨by omega, by rw [hJ2]; exact scriptParts_no hd ((opWord_nil _).1 (by simpa using h2))⟩
 ·
  replace h1 := of_decide_eq_false h1
  refine WC.exit ?_
  refine At.thenexit ?_
  refine At.thenexit ?_
  refine At.blockexit ?_
  refine At.then_ ?_
  refine WC.seq ?_
  refine Qm ?_
  refine WL.callp hs Q0 (Yc.func Q0 fn24) (c_strings_Join _ _ _ (hs.okow (x := s) (F := F) Q1) (by have := scriptParts_len l.l; rw [hJ2, show k = l.l.length from by omega, List.take_length]; omega) (by have := fmtScript_len l.l; rw [hJ2, show k = l.l.length from by omega, List.take_length]; unfold fmtScript at this; omega)) ?_
  clear hs; intro w hs
  refine Qa ?_
  refine WL.next ?_
  refine WC.ret ?_
  refine fin1' rfl Q0 ?_
  refine RetP.mk hs ?_
  rw [hJ2, show k = l.l.length from by omega, List.take_length]; rfl

theorem c_spec_l1Int (c : Nat) (b_ : Sl UInt8) (list : (Sl Int)) (w : World) (h_list : Apart w list c) (hne : 0 < list.l.length) (h_c : CurAt 52 b_ c w) (hb_c : CurB w b_ c) : Calls Tryz.prog 39 [bp c 0, Sl.v list].toArray w (RetD 52 b_ c w (fun v w' => ∃ (x : Int), v = I x ∧ (Ph.ok w' x) ∧ (x ∈ list.l) ∧ True)) := by
 have hw := h_list.ok.lt
 refine enterN 12 Tryz.func39 rfl rfl rfl ?_
 have hs := Sat.startC h_c
 refine WC.seq ?_
 refine Qa ?_
 refine WL.next ?_
 refine WC.seq ?_
 refine Qm ?_
 refine Qm ?_
 refine Qm ?_
 refine WL.p Q0 (Yl.len_sl slu68 Q0) ?_
 refine WL.calld hs (T := 52) (b := b_) (c := c) Q2 Q0 (Yc.func Q0 fn30) (c_spec_l1Below c b_ _ _ (hs.cur Q1) (Apart.now hb_c hs)) ?_
 clear hs; intro v w ho hR hs
 obtain ⟨x1, rfl, hokx1, hx1, hf1⟩ := hR
 clear ho hf1
 have hb9 := hx1.2.2 Q7
 obtain ⟨d9, hd9⟩ := exists_get (l := list.l) (k := (x1).toNat) Q7
 refine WL.p Q0 (Yl.indexAddr (k := (x1).toNat) slt68 Q0 Q0 (Apart.now h_list hs).ok Q7 (hd9)) ?_
 refine WL.p Q0 (Yl.loadC0 sca3 Q0 (Sl.Ok.at_ (Apart.now h_list hs).ok (hd9)).2 Q0) ?_
 refine Qa ?_
 refine WL.next ?_
 refine WC.ret ?_
 refine fin1' rfl Q0 ?_
 refine RetD.mk hs Q1 ?_
 refine ⟨_, rfl, (by first | exact (Apart.now h_list hs).ok.elem hd9 | trivial | assumption | exact Flat.any (by assumption) | exact ⟨by omega, by omega⟩ | (show WfS _; unfold WfS; omega) | (show WfS _; unfold WfS; simp only [List.length_append, List.length_cons, List.length_nil] at *; omega) | (refine Ph.old ?_ hs; assumption)), ?_, ?_⟩
 ·
  exact List.mem_of_getElem? hd9
 ·
  trivial

theorem c_spec_l8Lines (c : Nat) (b_ : Sl UInt8) (w : World)   (h_c : CurAt 52 b_ c w) (hb_c : CurB w b_ c) : Calls Tryz.prog 25 [bp c 0].toArray w (RetD 52 b_ c w (fun v w' => ∃ (l : Sl TLine), v = l.v ∧ (True) ∧ (0 < l.l.length ∧ lsz TLine.size l.l ≤ 200) ∧ Fresh w l w')) := by
 refine enterN 24 Tryz.func25 rfl rfl rfl ?_
 have hs := Sat.startC h_c
 refine WC.seq ?_
 refine Qa ?_
 refine WL.next ?_
 refine WC.seq ?_
 refine Qm ?_
 refine WL.calld hs (T := 52) (b := b_) (c := c) Q2 Q0 (Yc.func Q0 fn18) (c_spec_l8Text c b_ _ _ Q10 (hs.cur Q1) (Apart.now hb_c hs)) ?_
 clear hs; intro v w ho hR hs
 obtain ⟨x1, rfl, hokx1, hx1, hf1⟩ := hR
 clear ho hf1
 refine WL.call hs Q0 (Yc.func Q0 fn7) (c_spec_ParseScript _ _ Q7) ?_
 have hs0 := hs; clear hs; intro v w hb hR hs; clear hs
 obtain ⟨x2, rfl, hx2, hf2⟩ := hR
 obtain ⟨F2, hs⟩ := hf2.sat hs0 hb; clear hs0 hf2
 have hz2 := script_size_of hx2; have hy2 : 0 < x2.l.length := by rw [hx2]; exact hx1.2.2.2
 refine Qm ?_
 refine WL.p Q0 (Yl.extract Q0 Q0) ?_
 refine WL.p Q0 (Yl.extract Q0 Q0) ?_
 refine Qa ?_
 refine Qa ?_
 refine WL.next ?_
 refine WC.seq' ?_
 refine WC.seq ?_
 refine Qm ?_
 refine WL.calld hs (T := 52) (b := b_) (c := c) Q2 Q0 (Yc.func Q0 fn16) (c_spec_l1Once c b_ _ _ (hs.cur Q1) (Apart.now hb_c hs)) ?_
 clear hs; intro v w ho hR hs
 obtain ⟨x3, rfl, _, hx3, hf3⟩ := hR
 clear ho hf3
 refine WL.next ?_
 refine WC.condS Q0 (fun h1 => ?_) (fun h1 => ?_)
 ·
  refine WC.region ?_
  refine Qm ?_
  refine Qm ?_
  refine WL.r Q0 (Yr.buildSlice hs sll68 Q0 Q0 Q0 Q4 Q0) ?_
  clear hs; rintro _ w ⟨b4, rfl, hb, hs⟩; clear hb
  replace hs := Sat.boxow (l := ([0, 6, 2] : List Int)) (hs.sel (D := [box b4 _ _]) Q2) rfl rfl (by decide) (ownL_mk_flat (lit_int Q0))
  try simp only [List.cons_append, List.nil_append] at hs
  refine WL.calld hs (T := 52) (b := b_) (c := c) Q2 Q0 (Yc.func Q0 fn39) (c_spec_l1Int c b_ (⟨[0, 6, 2], some ⟨b4, 0, none⟩, 3⟩ : Sl Int) _ (Apart.own (s := (⟨[0, 6, 2], some ⟨b4, 0, none⟩, 3⟩ : Sl Int)) (F := [b4]) hs Q2) (by exact Nat.succ_pos _) (hs.cur Q1) (Apart.now hb_c hs)) ?_
  clear hs; intro v w ho hR hs
  obtain ⟨x5, rfl, hokx5, hx5, hf5⟩ := hR
  clear ho hf5
  replace hx5 : x5 ∈ ([0, 6, 2] : List Int) := hx5
  have hn5 := mem_int (0) (6) hx5 Q0
  refine Qm ?_
  refine WL.r Q0 (Yr.buildSlice hs sll36 Q0 Q0 Q0 Q4 Q0) ?_
  clear hs; rintro _ w ⟨b6, rfl, hb, hs⟩; clear hb
  replace hs := Sat.boxow (l := ([([] : Str), ([81] : Str), ([112] : Str)] : List Str)) (hs.sel (D := [box b6 _ _]) Q2) rfl rfl (by decide) (ownL_mk_flat (lit_str Q0))
  try simp only [List.cons_append, List.nil_append] at hs
  refine WL.calld hs (T := 52) (b := b_) (c := c) Q2 Q0 (Yc.func Q0 fn17) (c_spec_l1Str c b_ (⟨[([] : Str), ([81] : Str), ([112] : Str)], some ⟨b6, 0, none⟩, 3⟩ : Sl Str) _ (Apart.own (s := (⟨[([] : Str), ([81] : Str), ([112] : Str)], some ⟨b6, 0, none⟩, 3⟩ : Sl Str)) (F := [b6]) hs Q2) (by exact Nat.succ_pos _) (hs.cur Q1) (Apart.now hb_c hs)) ?_
  clear hs; intro v w ho hR hs
  obtain ⟨x7, rfl, hokx7, hx7, hf7⟩ := hR
  clear ho hf7
  replace hx7 : x7 ∈ ([([] : Str), ([81] : Str), ([112] : Str)] : List Str) := hx7
  have hn7 := mem_len 1 hx7 Q0
  refine WL.p Q0 (Yl.build bt40 Q0 Q4) ?_
  refine WL.r Q0 (Yr.buildSlice hs sll25 Q0 Q0 Q0 Q4 Q0) ?_
  clear hs; rintro _ w ⟨b8, rfl, hb, hs⟩; clear hb
  refine WL.r Q0 (Yr.append (s := x2) (F := F2) hs elt25 Q2 Q0 Q0 rfl (xs := [(⟨x5, x7⟩ : TLine)]) (hs.box_cells Q1) (by intro x hx; obtain rfl := List.mem_singleton.1 hx; exact ⟨(by first | exact (Flat.any hokx5) | trivial | assumption | exact Flat.any (by assumption) | exact ⟨by omega, by omega⟩ | (show WfS _; unfold WfS; omega) | (show WfS _; unfold WfS; simp only [List.length_append, List.length_cons, List.length_nil] at *; omega) | (refine Ph.old ?_ hs; assumption)), (by first | exact (Flat.any hokx7) | trivial | assumption | exact Flat.any (by assumption) | exact ⟨by omega, by omega⟩ | (show WfS _; unfold WfS; omega) | (show WfS _; unfold WfS; simp only [List.length_append, List.length_cons, List.length_nil] at *; omega) | (refine Ph.old ?_ hs; assumption))⟩) (by first | (unfold maxLen; omega) | omega | ((try simp only [lsz, strsz, List.length_map, PCache.lg, TCache.size, PPolicy.lg, TPolicy.size, List.length_cons, List.length_nil] at *); first | (unfold maxLen; omega) | omega)) (by first | (unfold maxLen; omega) | omega | ((try simp only [lsz, strsz, List.length_map, PCache.lg, TCache.size, PPolicy.lg, TPolicy.size, List.length_cons, List.length_nil] at *); first | (unfold maxLen; omega) | omega))) ?_
  clear hs; rintro _ w ⟨s9, F9, rfl, hl9, hs⟩
  refine Qa ?_
  refine WL.nil ?_
  refine At.then_ ?_
  refine WC.seq ?_
  refine Qm ?_
  refine Qa ?_
  refine WL.next ?_
  refine WC.ret ?_
  refine fin1' rfl Q0 ?_
  refine RetD.mk hs Q1 ?_
  refine ⟨s9, rfl, trivial, ?_, ?_⟩
  ·
   repeat' apply And.intro
   all_goals (try dsimp only)
   all_goals first | trivial | assumption | omega | ((try simp only [List.length_append, List.length_cons, List.length_nil, lsz_app, lsz_one, lsz_cons, lsz_nil, TAddr.size, TResponse.size, TRequest.size, TPolicy.size, TEntry.size, TCache.size, strsz, TLine.size, TSent.size, TServer.size, TFile.size, List.map_append, List.map_cons, List.map_nil, PServer.lg, PPolicy.lg, PCache.lg, hl9] at *); first | omega | assumption)
  ·
   exact hs.freshD (x := s9) (F := F9) Q2
 ·
  refine WC.skipn ?_
  refine WC.seq ?_
  refine Qm ?_
  refine Qa ?_
  refine WL.next ?_
  refine WC.ret ?_
  refine fin1' rfl Q0 ?_
  refine RetD.mk hs Q1 ?_
  refine ⟨x2, rfl, trivial, ?_, ?_⟩
  ·
   repeat' apply And.intro
   all_goals (try dsimp only)
   all_goals first | trivial | assumption | omega | ((try simp only [List.length_append, List.length_cons, List.length_nil, lsz_app, lsz_one, lsz_cons, lsz_nil, TAddr.size, TResponse.size, TRequest.size, TPolicy.size, TEntry.size, TCache.size, strsz, TLine.size, TSent.size, TServer.size, TFile.size, List.map_append, List.map_cons, List.map_nil, PServer.lg, PPolicy.lg, PCache.lg] at *); first | omega | assumption)
  ·
   exact hs.freshD (x := x2) (F := F2) Q2

theorem c_spec_DrawFormatScript (code : (Sl UInt8)) (w : World) (h_code : Ph.ok w code)  : Calls Tryz.prog 9 [Sl.v code].toArray w (Ret w (fun v w' => ∃ (l : Sl TLine), v = l.v ∧ (True) ∧ (0 < l.l.length ∧ lsz TLine.size l.l ≤ 200) ∧ Fresh w l w')) := by
 refine enterN 8 Tryz.func9 rfl rfl rfl ?_
 have hs := Sat.start w
 refine WC.seq ?_
 refine Qa ?_
 refine WL.next ?_
 refine WC.seq ?_
 refine Qm ?_
 refine WL.calln hs Q0 (Yc.func Q0 fn15) (c_spec_l1New _ _ (Ph.old h_code hs)) ?_
 clear hs; intro c1 w hs
 refine Qa ?_
 refine WL.next ?_
 refine WC.seq ?_
 refine Qm ?_
 refine WL.calld hs (T := 52) (b := code) (c := c1) Q2 Q0 (Yc.func Q0 fn25) (c_spec_l8Lines c1 code _ (hs.cur Q1) (Apart.new (by first | assumption) hs Q1)) ?_
 clear hs; intro v w ho hR hs
 obtain ⟨x2, rfl, _, hx2, hf2⟩ := hR
 obtain ⟨F2, hs⟩ := hs.addF ho hf2
 clear ho hf2
 refine Qa ?_
 refine WL.next ?_
 refine WC.ret ?_
 refine fin1' rfl Q0 ?_
 refine Ret.mk hs ?_
 refine ⟨x2, rfl, trivial, ?_, ?_⟩
 ·
  repeat' apply And.intro
  all_goals (try dsimp only)
  all_goals first | trivial | assumption | omega | ((try simp only [List.length_append, List.length_cons, List.length_nil, lsz_app, lsz_one, lsz_cons, lsz_nil, TAddr.size, TResponse.size, TRequest.size, TPolicy.size, TEntry.size, TCache.size, strsz, TLine.size, TSent.size, TServer.size, TFile.size, List.map_append, List.map_cons, List.map_nil, PServer.lg, PPolicy.lg, PCache.lg] at *); first | omega | assumption)
 ·
  exact hs.fresh (x := x2) (F := F2) Q1

theorem c_spec_DrawMarkupOf (code : (Sl UInt8)) (w : World) (h_code : Ph.ok w code)  : Calls Tryz.prog 10 [Sl.v code].toArray w (Ret w (fun v w' => ∃ (s : Str), v = S s ∧ (Ph.ok w' s) ∧ (s.length ≤ 200) ∧ True)) := by
 refine enterN 9 Tryz.func10 rfl rfl rfl ?_
 have hs := Sat.start w
 refine WC.seq ?_
 refine Qa ?_
 refine WL.next ?_
 refine WC.seq ?_
 refine Qm ?_
 refine WL.calln hs Q0 (Yc.func Q0 fn15) (c_spec_l1New _ _ (Ph.old h_code hs)) ?_
 clear hs; intro c1 w hs
 refine Qa ?_
 refine WL.next ?_
 refine WC.seq ?_
 refine Qm ?_
 refine WL.r Q0 (Yr.buildSlice hs sll36 Q0 Q0 Q0 Q4 Q0) ?_
 clear hs; rintro _ w ⟨b2, rfl, hb, hs⟩; clear hb
 replace hs := Sat.boxow (l := ([([] : Str), ([91, 112, 93, 120, 91, 47, 112, 93] : Str), ([97, 91, 98] : Str), ([93, 93] : Str), ([60, 112, 62] : Str)] : List Str)) (hs.sel (D := [box b2 _ _]) Q2) rfl rfl (by decide) (ownL_mk_flat (lit_str Q0))
 try simp only [List.cons_append, List.nil_append] at hs
 refine WL.calld hs (T := 52) (b := code) (c := c1) Q2 Q0 (Yc.func Q0 fn17) (c_spec_l1Str c1 code (⟨[([] : Str), ([91, 112, 93, 120, 91, 47, 112, 93] : Str), ([97, 91, 98] : Str), ([93, 93] : Str), ([60, 112, 62] : Str)], some ⟨b2, 0, none⟩, 5⟩ : Sl Str) _ (Apart.own (s := (⟨[([] : Str), ([91, 112, 93, 120, 91, 47, 112, 93] : Str), ([97, 91, 98] : Str), ([93, 93] : Str), ([60, 112, 62] : Str)], some ⟨b2, 0, none⟩, 5⟩ : Sl Str)) (F := [b2]) hs Q2) (by exact Nat.succ_pos _) (hs.cur Q1) (Apart.new (by first | assumption) hs Q1)) ?_
 clear hs; intro v w ho hR hs
 obtain ⟨x3, rfl, hokx3, hx3, hf3⟩ := hR
 clear ho hf3
 replace hx3 : x3 ∈ ([([] : Str), ([91, 112, 93, 120, 91, 47, 112, 93] : Str), ([97, 91, 98] : Str), ([93, 93] : Str), ([60, 112, 62] : Str)] : List Str) := hx3
 have hn3 := mem_len 8 hx3 Q0
 refine Qa ?_
 refine WL.next ?_
 refine WC.ret ?_
 refine fin1' rfl Q0 ?_
 refine Ret.mk hs ?_
 refine ⟨_, rfl, (by first | exact (Flat.any hokx3) | trivial | assumption | exact Flat.any (by assumption) | exact ⟨by omega, by omega⟩ | (show WfS _; unfold WfS; omega) | (show WfS _; unfold WfS; simp only [List.length_append, List.length_cons, List.length_nil] at *; omega) | (refine Ph.old ?_ hs; assumption)), ?_, ?_⟩
 ·
  repeat' apply And.intro
  all_goals (try dsimp only)
  all_goals first | trivial | assumption | omega | ((try simp only [List.length_append, List.length_cons, List.length_nil, lsz_app, lsz_one, lsz_cons, lsz_nil, TAddr.size, TResponse.size, TRequest.size, TPolicy.size, TEntry.size, TCache.size, strsz, TLine.size, TSent.size, TServer.size, TFile.size, List.map_append, List.map_cons, List.map_nil, PServer.lg, PPolicy.lg, PCache.lg] at *); first | omega | assumption)
 ·
  trivial

theorem c_spec_FormatScript (l : (Sl TLine)) (w : World) (h_l : Ph.ok w l) (hb : lsz TLine.size l.l ≤ 1048576) : Calls Tryz.prog 11 [Sl.v l].toArray w (RetP w (S (fmtScript l.l))) := by
 have hw := h_l.lt
 have hlz : lsz TLine.size l.l = l.l.length + lsum TLine.size l.l := rfl
 refine enterN 39 Tryz.func11 rfl rfl rfl ?_
 have hs := Sat.start w
 refine WC.seq ?_
 refine Qa ?_
 refine WL.next ?_
 refine WC.seq ?_
 refine Qa ?_
 refine WL.next ?_
 refine WC.seq' ?_
 refine WC.seq ?_
 refine Qa ?_
 refine WL.next ?_
 refine WC.block ?_
 refine WC.loopC (ι := Nat × Str) (fun ⟨k, s⟩ => l.l.length - k) (fun ⟨k, s⟩ => [(4, I (k : Int)), (3, S s)]) (fun _ => []) (fun ⟨k, s⟩ => k ≤ l.l.length ∧ s = fmtScript (l.l.take k)) [(0, _), (2, _)] (0, []) (hs) ⟨by rfl, by rfl, trivial⟩ ⟨by rfl, by rfl, trivial⟩ ?_ ?_
 ·
  exact ⟨Nat.zero_le _, rfl⟩
 clear hs; rintro ⟨k, s⟩ w ⟨hJ1, hJ2⟩ hs
 simp only [List.nil_append] at hs
 refine WC.seq' ?_
 refine WC.seq ?_
 refine Qm ?_
 refine Qm ?_
 refine WL.p Q0 (Yl.len_sl slu25 Q0) ?_
 refine WL.p Q0 (Yl.lss Q0 Q0) ?_
 refine WL.next ?_
 refine WC.condS Q0 (fun h1 => ?_) (fun h1 => ?_)
 ·
  replace h1 := of_decide_eq_true h1
  obtain ⟨d, hd⟩ := exists_get (l := l.l) (k := k) Q7
  have hsl := fmtScript_len (l.l.take k)
  have hsz := lsz_take TLine.size l.l k
  rw [← hJ2] at hsl
  have hdl := lsum_le (f := TLine.size) (List.mem_of_getElem? hd)
  have hwl := opWord_len d.op
  refine WC.skipn ?_
  refine WC.seq' ?_
  refine WC.block ?_
  refine WC.seq' ?_
  refine WC.seq ?_
  refine Qm ?_
  refine Qm ?_
  refine WL.p Q0 (Yl.indexAddr slt25 Q0 Q0 (Ph.old h_l hs) Q0 (hd)) ?_
  refine WL.p Q0 (Yl.fieldAddr fa40_0 Q0) ?_
  refine WL.p Q0 (Yl.loadC sca3 Q0 (Sl.Ok.at_ (Ph.old h_l hs) (by assumption)).2 Q0) ?_
  refine WL.callp hs Q0 (Yc.func Q0 fn26) (c_spec_l1In _ _ _ _) ?_
  clear hs; intro w hs
  refine WL.p Q0 (Yl.not Q0) ?_
  refine WL.next ?_
  refine WC.condS Q0 (fun h2 => ?_) (fun h2 => ?_)
  ·
   replace h2 := not_eq_true h2
   replace h2 := inR_false.1 h2
   refine WC.exit ?_
   refine At.thenexit ?_
   refine At.blockexit ?_
   refine At.then_ ?_
   refine WC.region ?_
   refine Qm ?_
   refine WL.p Q0 (Yl.add Q0 Q0 Q7) ?_
   refine Qa ?_
   refine WL.nil ?_
   refine At.roundC (k + 1, s) (hs.only Q2) ⟨by rfl, by rfl, trivial⟩ ⟨by rfl, by rfl, trivial⟩ ?_ ?_
   ·
    show l.l.length - (k + 1) < l.l.length - k
    omega
   ·
    exact ⟨by omega, by rw [hJ2]; exact fmtScript_no hd Q7⟩
  ·
   replace h2 := not_eq_false h2
   replace h2 := inR_true.1 h2
   refine WC.skipn ?_
   refine WC.seq' ?_
   refine WC.seq ?_
   refine Qm ?_
   refine WL.p Q0 (Yl.nes Q0 Q0) ?_
   refine WL.next ?_
   refine WC.condS Q0 (fun h3 => ?_) (fun h3 => ?_)
   ·
    replace h3 := not_eq_true h3
    replace h3 := of_decide_eq_false h3
    refine WC.region ?_
    refine Qm ?_
    refine WL.p Q0 (Yl.cat Q0 Q0 (by simp only [List.length_append, List.length_cons, List.length_nil, TLine.size] at *; omega)) ?_
    refine Qa ?_
    refine WL.nil ?_
    refine At.then_ ?_
    refine WC.any mixed hs ?_
    clear hs; intro w hs
    refine WA.p (i := 0) Q0 Q6 Q6 Q6 Q0 (hs.only Q2) (fun w hs => Yl.move Q0) ?_
    refine WA.p (i := 2) Q0 Q6 Q6 Q6 Q0 (hs.only Q2) (fun w hs => Yl.move Q0) ?_
    refine WA.p (i := 3) Q0 Q6 Q6 Q6 Q0 (hs.only Q2) (fun w hs => Yl.move Q0) ?_
    refine WA.p (i := 4) Q0 Q6 Q6 Q6 Q0 (hs.only Q2) (fun w hs => Yl.indexAddr slt25 Q0 Q0 (Ph.old h_l hs) Q0 (hd)) ?_
    refine WA.p (i := 5) Q0 Q6 Q6 Q6 Q0 (hs.only Q2) (fun w hs => Yl.fieldAddr fa40_0 Q0) ?_
    refine WA.p (i := 6) Q0 Q6 Q6 Q6 Q0 (hs.only Q2) (fun w hs => Yl.loadC sca3 Q0 (Sl.Ok.at_ (Ph.old h_l hs) (by assumption)).2 Q0) ?_
    refine WA.p (i := 10) Q0 Q6 Q6 Q6 Q0 (hs.only Q2) (fun w hs => Yl.move Q0) ?_
    refine WA.p (i := 11) Q0 Q6 Q6 Q6 Q0 (hs.only Q2) (fun w hs => Yl.move Q0) ?_
    refine WA.p (i := 12) Q0 Q6 Q6 Q6 Q0 (hs.only Q2) (fun w hs => Yl.indexAddr slt25 Q0 Q0 (Ph.old h_l hs) Q0 (hd)) ?_
    refine WA.p (i := 13) Q0 Q6 Q6 Q6 Q0 (hs.only Q2) (fun w hs => Yl.fieldAddr fa40_1 Q0) ?_
    refine WA.p (i := 14) Q0 Q6 Q6 Q6 Q0 (hs.only Q2) (fun w hs => Yl.loadC sca9 Q0 (Sl.Ok.at_ (Ph.old h_l hs) (by assumption)).2 Q0) ?_
    refine WA.call2 (i := 1) hs (fun _ hs => hs.only Q2) Q6 Q0 Q0 (Yc.func Q0 fn27) (c_spec_l8Words _) ?_
    have hs0 := hs; clear hs; intro v w hb hR hs; clear hs
    obtain ⟨x1, rfl, hx1, hf1⟩ := hR
    obtain ⟨F1, hs⟩ := hf1.sat hs0 hb; clear hs0 hf1
    have hle1 := Sl.Ok.le (hs.okow (x := x1) (F := F1) Q1)
    refine WA.r (i := 7) Q6 Q0 Q0 (Yl.yr (Yl.indexAddr (k := d.op.toNat) slt36 Q0 Q0 (hs.okow (x := x1) (F := F1) Q1) Q7 (show x1.l[d.op.toNat]? = some (opWord d.op ++ [32]) from by rw [hx1]; exact opWords_get (by assumption)))) (by rintro _ _ ⟨rfl, rfl⟩; exact hs.only Q2) ?_
    rintro _ _ ⟨rfl, rfl⟩
    refine WA.r (i := 8) Q6 Q0 Q0 (Yl.yr (Yl.loadC0 sca9 Q0 (Sl.Ok.at_ (hs.okow (x := x1) (F := F1) Q1) (show x1.l[d.op.toNat]? = some (opWord d.op ++ [32]) from by rw [hx1]; exact opWords_get (by assumption))).2 Q0)) (by rintro _ _ ⟨rfl, rfl⟩; exact hs.only Q2) ?_
    rintro _ _ ⟨rfl, rfl⟩
    refine WA.p (i := 9) Q0 Q6 Q6 Q6 Q0 (hs.only Q2) (fun w hs => Yl.cat Q0 Q0 (by simp only [List.length_append, List.length_cons, List.length_nil, TLine.size] at *; omega)) ?_
    refine WA.p (i := 15) Q0 Q6 Q6 Q6 Q0 (hs.only Q2) (fun w hs => Yl.cat Q0 Q0 (by simp only [List.length_append, List.length_cons, List.length_nil, TLine.size] at *; omega)) ?_
    refine WA.p (i := 16) Q0 Q6 Q6 Q6 Q0 (hs.only Q2) (fun w hs => Yl.assign Q0) ?_
    refine WA.done Q6 ?_
    refine At.blocknormal ?_
    refine At.then_ ?_
    refine WC.region ?_
    refine Qm ?_
    refine WL.p Q0 (Yl.add Q0 Q0 Q7) ?_
    refine Qa ?_
    refine WL.nil ?_
    refine At.roundC (k + 1, s ++ [59] ++ (opWord d.op ++ [32]) ++ d.text) (hs.only Q2) ⟨by rfl, by rfl, trivial⟩ ⟨by rfl, by rfl, trivial⟩ ?_ ?_
    ·
     show l.l.length - (k + 1) < l.l.length - k
     omega
    ·
     exact ⟨by omega, by rw [fmtScript_more hd (by assumption) (by rw [← hJ2]; assumption), ← hJ2]; simp [lineText]⟩
   ·
    replace h3 := not_eq_false h3
    replace h3 := of_decide_eq_true h3
    refine WC.skipn ?_
    refine WC.any mixed hs ?_
    clear hs; intro w hs
    refine WA.p (i := 0) Q0 Q6 Q6 Q6 Q0 (hs.only Q2) (fun w hs => Yl.move Q0) ?_
    refine WA.p (i := 2) Q0 Q6 Q6 Q6 Q0 (hs.only Q2) (fun w hs => Yl.move Q0) ?_
    refine WA.p (i := 3) Q0 Q6 Q6 Q6 Q0 (hs.only Q2) (fun w hs => Yl.move Q0) ?_
    refine WA.p (i := 4) Q0 Q6 Q6 Q6 Q0 (hs.only Q2) (fun w hs => Yl.indexAddr slt25 Q0 Q0 (Ph.old h_l hs) Q0 (hd)) ?_
    refine WA.p (i := 5) Q0 Q6 Q6 Q6 Q0 (hs.only Q2) (fun w hs => Yl.fieldAddr fa40_0 Q0) ?_
    refine WA.p (i := 6) Q0 Q6 Q6 Q6 Q0 (hs.only Q2) (fun w hs => Yl.loadC sca3 Q0 (Sl.Ok.at_ (Ph.old h_l hs) (by assumption)).2 Q0) ?_
    refine WA.p (i := 10) Q0 Q6 Q6 Q6 Q0 (hs.only Q2) (fun w hs => Yl.move Q0) ?_
    refine WA.p (i := 11) Q0 Q6 Q6 Q6 Q0 (hs.only Q2) (fun w hs => Yl.move Q0) ?_
    refine WA.p (i := 12) Q0 Q6 Q6 Q6 Q0 (hs.only Q2) (fun w hs => Yl.indexAddr slt25 Q0 Q0 (Ph.old h_l hs) Q0 (hd)) ?_
    refine WA.p (i := 13) Q0 Q6 Q6 Q6 Q0 (hs.only Q2) (fun w hs => Yl.fieldAddr fa40_1 Q0) ?_
    refine WA.p (i := 14) Q0 Q6 Q6 Q6 Q0 (hs.only Q2) (fun w hs => Yl.loadC sca9 Q0 (Sl.Ok.at_ (Ph.old h_l hs) (by assumption)).2 Q0) ?_
    refine WA.call2 (i := 1) hs (fun _ hs => hs.only Q2) Q6 Q0 Q0 (Yc.func Q0 fn27) (c_spec_l8Words _) ?_
    have hs0 := hs; clear hs; intro v w hb hR hs; clear hs
    obtain ⟨x2, rfl, hx2, hf2⟩ := hR
    obtain ⟨F2, hs⟩ := hf2.sat hs0 hb; clear hs0 hf2
    have hle2 := Sl.Ok.le (hs.okow (x := x2) (F := F2) Q1)
    refine WA.r (i := 7) Q6 Q0 Q0 (Yl.yr (Yl.indexAddr (k := d.op.toNat) slt36 Q0 Q0 (hs.okow (x := x2) (F := F2) Q1) Q7 (show x2.l[d.op.toNat]? = some (opWord d.op ++ [32]) from by rw [hx2]; exact opWords_get (by assumption)))) (by rintro _ _ ⟨rfl, rfl⟩; exact hs.only Q2) ?_
    rintro _ _ ⟨rfl, rfl⟩
    refine WA.r (i := 8) Q6 Q0 Q0 (Yl.yr (Yl.loadC0 sca9 Q0 (Sl.Ok.at_ (hs.okow (x := x2) (F := F2) Q1) (show x2.l[d.op.toNat]? = some (opWord d.op ++ [32]) from by rw [hx2]; exact opWords_get (by assumption))).2 Q0)) (by rintro _ _ ⟨rfl, rfl⟩; exact hs.only Q2) ?_
    rintro _ _ ⟨rfl, rfl⟩
    refine WA.p (i := 9) Q0 Q6 Q6 Q6 Q0 (hs.only Q2) (fun w hs => Yl.cat Q0 Q0 (by simp only [List.length_append, List.length_cons, List.length_nil, TLine.size] at *; omega)) ?_
    refine WA.p (i := 15) Q0 Q6 Q6 Q6 Q0 (hs.only Q2) (fun w hs => Yl.cat Q0 Q0 (by simp only [List.length_append, List.length_cons, List.length_nil, TLine.size] at *; omega)) ?_
    refine WA.p (i := 16) Q0 Q6 Q6 Q6 Q0 (hs.only Q2) (fun w hs => Yl.assign Q0) ?_
    refine WA.done Q6 ?_
    refine At.blocknormal ?_
    refine At.then_ ?_
    refine WC.region ?_
    refine Qm ?_
    refine WL.p Q0 (Yl.add Q0 Q0 Q7) ?_
    refine Qa ?_
    refine WL.nil ?_
    refine At.roundC (k + 1, s ++ (opWord d.op ++ [32]) ++ d.text) (hs.only Q2) ⟨by rfl, by rfl, trivial⟩ ⟨by rfl, by rfl, trivial⟩ ?_ ?_
    ·
     show l.l.length - (k + 1) < l.l.length - k
     omega
    ·
     exact ⟨by omega, by rw [fmtScript_first hd (by assumption) (by rw [← hJ2]; assumption)]; simp_all [lineText]⟩
 ·
  replace h1 := of_decide_eq_false h1
  refine WC.exit ?_
  refine At.thenexit ?_
  refine At.thenexit ?_
  refine At.blockexit ?_
  refine At.then_ ?_
  refine WC.seq ?_
  refine Qm ?_
  refine Qa ?_
  refine WL.next ?_
  refine WC.ret ?_
  refine fin1' rfl Q0 ?_
  refine RetP.mk hs ?_
  rw [hJ2, show k = l.l.length from by omega, List.take_length]

theorem c_impl_IsPassive (l : (Sl TLine)) (w : World) (h_l : Ph.ok w l)  : Calls Tryz.prog 12 [Sl.v l].toArray w (RetP w (Bo (isPassive l.l))) := by
 have hw := h_l.lt
 refine enterN 20 Tryz.func12 rfl rfl rfl ?_
 have hs := Sat.start w
 refine WC.seq ?_
 refine Qa ?_
 refine WL.next ?_
 refine WC.seq' ?_
 refine WC.seq ?_
 refine Qm ?_
 refine WL.p Q0 (Yl.len_sl slu25 Q0) ?_
 refine Qm ?_
 refine WL.next ?_
 refine WC.block ?_
 refine WC.loopC (ι := Nat) (fun k => l.l.length - k) (fun k => [(7, I (k : Int))]) (fun _ => []) (fun k => isPassive l.l = isPassive (l.l.drop k)) [(0, _), (5, _), (6, _)] 0 (hs) ⟨by rfl, by rfl, by rfl, trivial⟩ ⟨by rfl, trivial⟩ ?_ ?_
 ·
  simp
 clear hs; rintro k w hJ hs
 simp only [List.nil_append] at hs
 refine WC.seq ?_
 refine WL.p Q0 (Yl.lss Q0 Q0) ?_
 refine WL.next ?_
 refine WC.seq' ?_
 refine WC.condS Q0 (fun h1 => ?_) (fun h1 => ?_)
 ·
  replace h1 := of_decide_eq_true h1
  obtain ⟨d, hd⟩ := exists_get (l := l.l) (k := k) Q7
  rw [drop_cons hd] at hJ
  refine WC.skipn ?_
  refine WC.seq' ?_
  refine WC.block ?_
  refine WC.seq ?_
  refine WL.p Q0 (Yl.indexAddr slt25 Q0 Q0 (Ph.old h_l hs) Q0 (hd)) ?_
  refine WL.p Q0 (Yl.loadA agg40 Q0 (Sl.Ok.at_ (Ph.old h_l hs) (by assumption)).2 Q0) ?_
  refine WL.r Q0 (Yr.alloc hs zt40) ?_
  clear hs; rintro _ w ⟨b1, rfl, hb, hs⟩; clear hb
  refine WL.s (Yr.storeB hs Q0 Q0 Q0 Q5 Q3 Q0 (by exact szf40)) ?_
  clear hs; rintro _ w hs
  refine WL.next ?_
  refine WC.seq ?_
  refine WL.p Q0 (Yl.fieldAddr fa40_0 Q0) ?_
  refine WL.p Q0 (Yl.loadB sca3 Q0 hs Q1 Q0) ?_
  refine WL.p Q0 (Yl.eqi Q0 Q0) ?_
  refine Qm ?_
  refine WL.split (d := 14) Q0 (fun h2 => ?_) (fun h2 => ?_)
  ·
   replace h2 := of_decide_eq_true h2
   refine WL.skip (d := 14) Q0 Q0 Q0 Q0 ?_
   refine WL.skip (d := 14) Q0 Q0 Q0 Q0 ?_
   refine WL.skip (d := 14) Q0 Q0 Q0 Q0 ?_
   refine WL.p Q0 (Yl.pickT Q0 Q0) ?_
   refine WL.next ?_
   refine WC.condT Q0 ?_
   refine WC.seq ?_
   refine Qa ?_
   refine WL.next ?_
   refine WC.ret ?_
   refine At.blockret ?_
   refine At.thenret ?_
   refine At.thenret ?_
   refine At.blockret ?_
   refine At.thenret ?_
   refine fin1' rfl Q0 ?_
   refine RetP.mk hs ?_
   first
    | (simp [isPassive, hJ]; done)
    | (simp [isPassive, hJ]; omega)
    | simp_all [isPassive, hJ]
    | simp_all [isPassive]
  ·
   replace h2 := of_decide_eq_false h2
   refine WL.run (d := 14) Q0 Q0 ?_
   refine WL.p Q0 (Yl.fieldAddr fa40_0 Q0) ?_
   refine WL.run (d := 14) Q0 Q0 ?_
   refine WL.p Q0 (Yl.loadB sca3 Q0 hs Q1 Q0) ?_
   refine WL.run (d := 14) Q0 Q0 ?_
   refine WL.p Q0 (Yl.eqi Q0 Q0) ?_
   refine WL.p Q0 (Yl.pickF Q0 Q0) ?_
   refine WL.next ?_
   refine WC.condS Q0 (fun h3 => ?_) (fun h3 => ?_)
   ·
    replace h3 := of_decide_eq_true h3
    refine WC.seq ?_
    refine Qa ?_
    refine WL.next ?_
    refine WC.ret ?_
    refine At.blockret ?_
    refine At.thenret ?_
    refine At.thenret ?_
    refine At.blockret ?_
    refine At.thenret ?_
    refine fin1' rfl Q0 ?_
    refine RetP.mk hs ?_
    first
     | (simp [isPassive, hJ]; done)
     | (simp [isPassive, hJ]; omega)
     | simp_all [isPassive, hJ]
     | simp_all [isPassive]
   ·
    replace h3 := of_decide_eq_false h3
    refine WC.skip ?_
    refine At.blocknormal ?_
    refine At.then_ ?_
    refine WC.region ?_
    refine WL.p Q0 (Yl.add Q0 Q0 Q7) ?_
    refine Qm ?_
    refine WL.nil ?_
    refine At.roundC (k + 1) (hs.only Q2) ⟨by rfl, by rfl, by rfl, trivial⟩ ⟨by rfl, trivial⟩ ?_ ?_
    ·
     omega
    ·
     rw [hJ]; simp_all [isPassive]
 ·
  replace h1 := of_decide_eq_false h1
  rw [drop_out (l := l.l) Q7] at hJ
  refine WC.exit ?_
  refine At.thenexit ?_
  refine At.thenexit ?_
  refine At.blockexit ?_
  refine At.then_ ?_
  refine WC.seq ?_
  refine Qa ?_
  refine WL.next ?_
  refine WC.ret ?_
  refine fin1' rfl Q0 ?_
  refine RetP.mk hs ?_
  first
   | (simp [isPassive, hJ]; done)
   | (simp [isPassive, hJ]; omega)
   | simp_all [isPassive, hJ]
   | simp_all [isPassive]

theorem c_spec_IsPassive (l : (Sl TLine)) (w : World) (h_l : Ph.ok w l)  : Calls Tryz.prog 13 [Sl.v l].toArray w (RetP w (Bo (isPassive l.l))) := by
 have hw := h_l.lt
 refine enterN 24 Tryz.func13 rfl rfl rfl ?_
 have hs := Sat.start w
 refine WC.seq ?_
 refine Qa ?_
 refine WL.next ?_
 refine WC.seq' ?_
 refine WC.seq ?_
 refine Qa ?_
 refine WL.next ?_
 refine WC.block ?_
 refine WC.loopC (ι := Nat) (fun k => l.l.length - k) (fun k => [(3, I (k : Int))]) (fun _ => []) (fun k => isPassive l.l = isPassive (l.l.drop k)) [(0, _)] 0 (hs) ⟨by rfl, trivial⟩ ⟨by rfl, trivial⟩ ?_ ?_
 ·
  simp
 clear hs; rintro k w hJ hs
 simp only [List.nil_append] at hs
 refine WC.seq' ?_
 refine WC.seq ?_
 refine Qm ?_
 refine Qm ?_
 refine WL.p Q0 (Yl.len_sl slu25 Q0) ?_
 refine WL.p Q0 (Yl.lss Q0 Q0) ?_
 refine WL.next ?_
 refine WC.condS Q0 (fun h1 => ?_) (fun h1 => ?_)
 ·
  replace h1 := of_decide_eq_true h1
  obtain ⟨d, hd⟩ := exists_get (l := l.l) (k := k) Q7
  rw [drop_cons hd] at hJ
  refine WC.skipn ?_
  refine WC.seq' ?_
  refine WC.block ?_
  refine WC.seq ?_
  refine Qm ?_
  refine Qm ?_
  refine WL.p Q0 (Yl.indexAddr slt25 Q0 Q0 (Ph.old h_l hs) Q0 (hd)) ?_
  refine WL.p Q0 (Yl.fieldAddr fa40_0 Q0) ?_
  refine WL.p Q0 (Yl.loadC sca3 Q0 (Sl.Ok.at_ (Ph.old h_l hs) (by assumption)).2 Q0) ?_
  refine WL.p Q0 (Yl.eqi Q0 Q0) ?_
  refine Qm ?_
  refine WL.split (d := 16) Q0 (fun h2 => ?_) (fun h2 => ?_)
  ·
   replace h2 := of_decide_eq_true h2
   refine WL.skip (d := 16) Q0 Q0 Q0 Q0 ?_
   refine WL.skip (d := 16) Q0 Q0 Q0 Q0 ?_
   refine WL.skip (d := 16) Q0 Q0 Q0 Q0 ?_
   refine WL.skip (d := 16) Q0 Q0 Q0 Q0 ?_
   refine WL.skip (d := 16) Q0 Q0 Q0 Q0 ?_
   refine WL.skip (d := 16) Q0 Q0 Q0 Q0 ?_
   refine WL.p Q0 (Yl.pickT Q0 Q0) ?_
   refine WL.next ?_
   refine WC.condT Q0 ?_
   refine WC.seq ?_
   refine Qa ?_
   refine WL.next ?_
   refine WC.ret ?_
   refine At.blockret ?_
   refine At.thenret ?_
   refine At.thenret ?_
   refine At.blockret ?_
   refine At.thenret ?_
   refine fin1' rfl Q0 ?_
   refine RetP.mk hs ?_
   first
    | (simp [isPassive, hJ]; done)
    | (simp [isPassive, hJ]; omega)
    | simp_all [isPassive, hJ]
    | simp_all [isPassive]
  ·
   replace h2 := of_decide_eq_false h2
   refine WL.run (d := 16) Q0 Q0 ?_
   refine Qm ?_
   refine WL.run (d := 16) Q0 Q0 ?_
   refine Qm ?_
   refine WL.run (d := 16) Q0 Q0 ?_
   refine WL.p Q0 (Yl.indexAddr slt25 Q0 Q0 (Ph.old h_l hs) Q0 (hd)) ?_
   refine WL.run (d := 16) Q0 Q0 ?_
   refine WL.p Q0 (Yl.fieldAddr fa40_0 Q0) ?_
   refine WL.run (d := 16) Q0 Q0 ?_
   refine WL.p Q0 (Yl.loadC sca3 Q0 (Sl.Ok.at_ (Ph.old h_l hs) (by assumption)).2 Q0) ?_
   refine WL.run (d := 16) Q0 Q0 ?_
   refine WL.p Q0 (Yl.eqi Q0 Q0) ?_
   refine WL.p Q0 (Yl.pickF Q0 Q0) ?_
   refine WL.next ?_
   refine WC.condS Q0 (fun h3 => ?_) (fun h3 => ?_)
   ·
    replace h3 := of_decide_eq_true h3
    refine WC.seq ?_
    refine Qa ?_
    refine WL.next ?_
    refine WC.ret ?_
    refine At.blockret ?_
    refine At.thenret ?_
    refine At.thenret ?_
    refine At.blockret ?_
    refine At.thenret ?_
    refine fin1' rfl Q0 ?_
    refine RetP.mk hs ?_
    first
     | (simp [isPassive, hJ]; done)
     | (simp [isPassive, hJ]; omega)
     | simp_all [isPassive, hJ]
     | simp_all [isPassive]
   ·
    replace h3 := of_decide_eq_false h3
    refine WC.skip ?_
    refine At.blocknormal ?_
    refine At.then_ ?_
    refine WC.region ?_
    refine Qm ?_
    refine WL.p Q0 (Yl.add Q0 Q0 Q7) ?_
    refine Qa ?_
    refine WL.nil ?_
    refine At.roundC (k + 1) (hs.only Q2) ⟨by rfl, trivial⟩ ⟨by rfl, trivial⟩ ?_ ?_
    ·
     omega
    ·
     rw [hJ]; simp_all [isPassive]
 ·
  replace h1 := of_decide_eq_false h1
  rw [drop_out (l := l.l) Q7] at hJ
  refine WC.exit ?_
  refine At.thenexit ?_
  refine At.thenexit ?_
  refine At.blockexit ?_
  refine At.then_ ?_
  refine WC.seq ?_
  refine Qa ?_
  refine WL.next ?_
  refine WC.ret ?_
  refine fin1' rfl Q0 ?_
  refine RetP.mk hs ?_
  first
   | (simp [isPassive, hJ]; done)
   | (simp [isPassive, hJ]; omega)
   | simp_all [isPassive, hJ]
   | simp_all [isPassive]

theorem c_impl_MarkupOf (s : Str) (w : World)  (hb : s.length ≤ 1048576) : Calls Tryz.prog 14 [S s].toArray w (RetP w (S (s.map mkB))) := by
 exact mo_impl s w hb

theorem c_laws_FnScripts (code : (Sl UInt8)) (w : World) (h_code : Ph.ok w code) (hm_ : ∃ m, w.cell? ⟨0, 0, none⟩ = some (.int .i64 m)) : Calls Tryz.prog 3 [Sl.v code].toArray w (RetP w (Bo true)) := by
 have emk : ∀ c : UInt8, mkB (mkB c) = mkB c := fun c => by
  unfold mkB
  repeat' split
  all_goals simp_all
 refine enterN 73 Tryz.func3 rfl rfl rfl ?_
 have hs := Sat.start w
 refine WC.seq ?_
 refine Qa ?_
 refine WL.next ?_
 refine WC.seq' ?_
 refine WC.seq ?_
 refine Qm ?_
 refine WL.callp hs Q0 (Yc.func Q0 fn4) (c_laws_big _ _ (Ph.old h_code hs)) ?_
 clear hs; intro w hs
 refine WL.next ?_
 refine WC.condS Q0 (fun h1 => ?_) (fun h1 => ?_)
 ·
  replace h1 := of_decide_eq_true h1
  refine WC.seq ?_
  refine Qa ?_
  refine WL.next ?_
  refine WC.ret ?_
  refine At.thenret ?_
  refine fin1' rfl Q0 ?_
  refine RetP.mk hs ?_
  first
   | rfl
   | (clear hs; simp_all; done)
   | (clear hs; simp_all [List.map_map, Function.comp_def]; done)
 ·
  replace h1 := of_decide_eq_false h1
  refine WC.skipn ?_
  refine WC.seq ?_
  refine Qm ?_
  refine WL.callx hs Q0 (Yc.func Q0 fn5) (c_spec_DrawParseScript _ _ (Ph.old h_code hs)) ?_
  clear hs; intro v w ho hR hs
  obtain ⟨x1, rfl, hokx1, hx1, hf1⟩ := hR
  clear ho hf1
  refine Qa ?_
  refine WL.next ?_
  refine WC.seq ?_
  refine Qm ?_
  refine WL.call hs Q0 (Yc.func Q0 fn6) (c_impl_ParseScript _ _ Q7 (by first | assumption | exact Sat.cellm hs (by assumption))) ?_
  have hs0 := hs; clear hs; intro v w hb hR hs; clear hs
  obtain ⟨x2, rfl, hx2, hf2⟩ := hR
  obtain ⟨F2, hs⟩ := hf2.sat hs0 hb; clear hs0 hf2
  have hz2 := script_size_of hx2
  refine Qm ?_
  refine WL.p Q0 (Yl.extract Q0 Q0) ?_
  refine WL.p Q0 (Yl.extract Q0 Q0) ?_
  refine Qa ?_
  refine Qa ?_
  refine WL.next ?_
  refine WC.seq ?_
  refine Qm ?_
  refine WL.call hs Q0 (Yc.func Q0 fn7) (c_spec_ParseScript _ _ Q7) ?_
  have hs0 := hs; clear hs; intro v w hb hR hs; clear hs
  obtain ⟨x3, rfl, hx3, hf3⟩ := hR
  obtain ⟨F3, hs⟩ := hf3.sat hs0 hb; clear hs0 hf3
  have hz3 := script_size_of hx3
  refine Qm ?_
  refine WL.p Q0 (Yl.extract Q0 Q0) ?_
  refine WL.p Q0 (Yl.extract Q0 Q0) ?_
  refine Qa ?_
  refine Qa ?_
  refine WL.next ?_
  refine WC.seq' ?_
  refine WC.seqJ (fun b => [(40, Bo b)]) (fun b => b = false) [(0, _), (2, _), (3, _), (4, _), (5, _), (7, _), (11, _)] hs ⟨by rfl, by rfl, by rfl, by rfl, by rfl, by rfl, by rfl, trivial⟩ ?_ ?_
  ·
   intro Q9 join
   refine WC.region ?_
   refine Qm ?_
   refine Qm ?_
   refine WL.p Q0 (Yl.neb bool4 Q0 Q0) ?_
   refine Qm ?_
   refine WL.split (d := 27) Q0 (fun h2 => ?_) (fun h2 => ?_)
   ·
    replace h2 := not_eq_true h2
    replace h2 := beq_false h2
    refine WL.skip (d := 27) Q0 Q0 Q0 Q0 ?_
    refine WL.skip (d := 27) Q0 Q0 Q0 Q0 ?_
    refine WL.skipU (d := 29) Q0 Q0 Q0 ?_
    refine WL.skipU (d := 29) Q0 Q0 Q0 ?_
    refine WL.skipU (d := 29) Q0 Q0 Q0 ?_
    refine WL.skipU (d := 29) Q0 Q0 Q0 ?_
    refine WL.skip (d := 27) Q0 Q0 Q0 Q0 ?_
    refine WL.p Q0 (Yl.pickT Q0 Q0) ?_
    refine Qm ?_
    refine WL.skip (d := 36) Q0 Q0 Q0 Q0 ?_
    refine WL.skip (d := 36) Q0 Q0 Q0 Q0 ?_
    refine WL.skip (d := 36) Q0 Q0 Q0 Q0 ?_
    refine WL.p Q0 (Yl.pickT Q0 Q0) ?_
    refine WL.nil ?_
    refine join _ _ _ ?_ (hs.only Q2) ⟨by rfl, trivial⟩ ⟨by rfl, by rfl, by rfl, by rfl, by rfl, by rfl, by rfl, trivial⟩
    (try clear join); (try clear ha); (try clear hs)
    first
     | (simp_all; done)
     | (simp_all [script_back]; done)
     | (have e9 := script_len x1; simp_all; omega)
     | (have e9 := script_len x1; simp_all; done)
   ·
    replace h2 := not_eq_false h2
    replace h2 := beq_true h2
    refine WL.run (d := 27) Q0 Q0 ?_
    refine Qm ?_
    refine WL.run (d := 27) Q0 Q0 ?_
    refine Qm ?_
    refine WL.split (d := 29) Q0 (fun h3 => ?_) (fun h3 => ?_)
    ·
     refine WL.run (d := 29) Q0 Q0 ?_
     refine Qm ?_
     refine WL.run (d := 29) Q0 Q0 ?_
     refine WL.callp hs Q0 (Yc.func Q0 fn8) (c_impl_FormatScript _ _ (hs.okow (x := x2) (F := F2) Q1) Q7) ?_
     clear hs; intro w hs
     refine WL.run (d := 29) Q0 Q0 ?_
     refine Qm ?_
     refine WL.run (d := 29) Q0 Q0 ?_
     refine WL.p Q0 (Yl.nes Q0 Q0) ?_
     refine WL.run (d := 27) Q0 Q0 ?_
     refine WL.p Q0 (Yl.pickT Q0 Q0) ?_
     refine WL.p Q0 (Yl.pickF Q0 Q0) ?_
     refine Qm ?_
     refine WL.split (d := 36) Q0 (fun h4 => ?_) (fun h4 => ?_)
     ·
      replace h4 := not_eq_true h4
      replace h4 := of_decide_eq_false h4
      refine WL.skip (d := 36) Q0 Q0 Q0 Q0 ?_
      refine WL.skip (d := 36) Q0 Q0 Q0 Q0 ?_
      refine WL.skip (d := 36) Q0 Q0 Q0 Q0 ?_
      refine WL.p Q0 (Yl.pickT Q0 Q0) ?_
      refine WL.nil ?_
      refine join _ _ _ ?_ (hs.only Q2) ⟨by rfl, trivial⟩ ⟨by rfl, by rfl, by rfl, by rfl, by rfl, by rfl, by rfl, trivial⟩
      (try clear join); (try clear ha); (try clear hs)
      first
       | (simp_all; done)
       | (simp_all [script_back]; done)
       | (have e9 := script_len x1; simp_all; omega)
       | (have e9 := script_len x1; simp_all; done)
     ·
      replace h4 := not_eq_false h4
      replace h4 := of_decide_eq_true h4
      refine WL.run (d := 36) Q0 Q0 ?_
      refine Qm ?_
      refine WL.run (d := 36) Q0 Q0 ?_
      refine WL.p Q0 (Yl.len_sl slu25 Q0) ?_
      refine WL.run (d := 36) Q0 Q0 ?_
      refine WL.p Q0 (Yl.gtr Q0 Q0) ?_
      refine WL.p Q0 (Yl.pickF Q0 Q0) ?_
      refine WL.nil ?_
      refine join _ _ _ ?_ (hs.only Q2) ⟨by rfl, trivial⟩ ⟨by rfl, by rfl, by rfl, by rfl, by rfl, by rfl, by rfl, trivial⟩
      (try clear join); (try clear ha); (try clear hs)
      first
       | (simp_all; done)
       | (simp_all [script_back]; done)
       | (have e9 := script_len x1; simp_all; omega)
       | (have e9 := script_len x1; simp_all; done)
    ·
     refine WL.skip (d := 29) Q0 Q0 Q0 Q0 ?_
     refine WL.skip (d := 29) Q0 Q0 Q0 Q0 ?_
     refine WL.skip (d := 29) Q0 Q0 Q0 Q0 ?_
     refine WL.skip (d := 29) Q0 Q0 Q0 Q0 ?_
     refine WL.run (d := 27) Q0 Q0 ?_
     refine WL.p Q0 (Yl.pickF Q0 Q0) ?_
     refine WL.p Q0 (Yl.pickF Q0 Q0) ?_
     refine Qm ?_
     refine WL.run (d := 36) Q0 Q0 ?_
     refine Qm ?_
     refine WL.run (d := 36) Q0 Q0 ?_
     refine WL.p Q0 (Yl.len_sl slu25 Q0) ?_
     refine WL.run (d := 36) Q0 Q0 ?_
     refine WL.p Q0 (Yl.gtr Q0 Q0) ?_
     refine WL.p Q0 (Yl.pickF Q0 Q0) ?_
     refine WL.nil ?_
     refine join _ _ _ ?_ (hs.only Q2) ⟨by rfl, trivial⟩ ⟨by rfl, by rfl, by rfl, by rfl, by rfl, by rfl, by rfl, trivial⟩
     (try clear join); (try clear ha); (try clear hs)
     first
      | (simp_all; done)
      | (simp_all [script_back]; done)
      | (have e9 := script_len x1; simp_all; omega)
      | (have e9 := script_len x1; simp_all; done)
  ·
   clear hs; rintro _ w rfl hs
   refine WC.condF Q0 ?_
   refine WC.skipn ?_
   refine WC.seq ?_
   refine Qm ?_
   refine WL.callx hs Q0 (Yc.func Q0 fn9) (c_spec_DrawFormatScript _ _ (Ph.old h_code hs)) ?_
   clear hs; intro v w ho hR hs
   obtain ⟨x4, rfl, _, hx4, hf4⟩ := hR
   obtain ⟨F4, hs⟩ := hs.addF ho hf4
   clear ho hf4
   refine Qa ?_
   refine WL.next ?_
   refine WC.seq ?_
   refine Qm ?_
   refine WL.callx hs Q0 (Yc.func Q0 fn10) (c_spec_DrawMarkupOf _ _ (Ph.old h_code hs)) ?_
   clear hs; intro v w ho hR hs
   obtain ⟨x5, rfl, hokx5, hx5, hf5⟩ := hR
   clear ho hf5
   refine Qa ?_
   refine WL.next ?_
   refine WC.seq ?_
   refine Qm ?_
   refine WL.callp hs Q0 (Yc.func Q0 fn8) (c_impl_FormatScript _ _ (hs.okow (x := x4) (F := F4) Q1) Q7) ?_
   clear hs; intro w hs
   refine Qm ?_
   refine WL.callp hs Q0 (Yc.func Q0 fn11) (c_spec_FormatScript _ _ (hs.okow (x := x4) (F := F4) Q1) Q7) ?_
   clear hs; intro w hs
   refine WL.p Q0 (Yl.eqs Q0 Q0) ?_
   refine Qm ?_
   refine WL.split (d := 50) Q0 (fun h2 => ?_) (fun h2 => ?_)
   ·
    replace h2 := of_decide_eq_true h2
    refine WL.run (d := 50) Q0 Q0 ?_
    refine Qm ?_
    refine WL.run (d := 50) Q0 Q0 ?_
    refine WL.callp hs Q0 (Yc.func Q0 fn12) (c_impl_IsPassive _ _ (hs.okow (x := x4) (F := F4) Q1)) ?_
    clear hs; intro w hs
    refine WL.run (d := 50) Q0 Q0 ?_
    refine Qm ?_
    refine WL.run (d := 50) Q0 Q0 ?_
    refine WL.callp hs Q0 (Yc.func Q0 fn13) (c_spec_IsPassive _ _ (hs.okow (x := x4) (F := F4) Q1)) ?_
    clear hs; intro w hs
    refine WL.run (d := 50) Q0 Q0 ?_
    refine WL.p Q0 (Yl.eqb bool4 Q0 Q0) ?_
    refine WL.p Q0 (Yl.pickT Q0 Q0) ?_
    refine Qm ?_
    refine WL.split (d := 57) Q0 (fun h3 => ?_) (fun h3 => ?_)
    ·
     replace h3 := beq_true h3
     refine WL.run (d := 57) Q0 Q0 ?_
     refine Qm ?_
     refine WL.run (d := 57) Q0 Q0 ?_
     refine WL.callp hs Q0 (Yc.func Q0 fn14) (c_impl_MarkupOf _ _ (by first | omega | (simp only [List.length_map]; omega))) ?_
     clear hs; intro w hs
     refine WL.run (d := 57) Q0 Q0 ?_
     refine WL.callp hs Q0 (Yc.func Q0 fn14) (c_impl_MarkupOf _ _ (by first | omega | (simp only [List.length_map]; omega))) ?_
     clear hs; intro w hs
     refine WL.run (d := 57) Q0 Q0 ?_
     refine Qm ?_
     refine WL.run (d := 57) Q0 Q0 ?_
     refine WL.callp hs Q0 (Yc.func Q0 fn14) (c_impl_MarkupOf _ _ (by first | omega | (simp only [List.length_map]; omega))) ?_
     clear hs; intro w hs
     refine WL.run (d := 57) Q0 Q0 ?_
     refine WL.p Q0 (Yl.eqs Q0 Q0) ?_
     refine WL.p Q0 (Yl.pickT Q0 Q0) ?_
     refine Qm ?_
     refine WL.split (d := 65) Q0 (fun h4 => ?_) (fun h4 => ?_)
     ·
      replace h4 := of_decide_eq_true h4
      refine WL.run (d := 65) Q0 Q0 ?_
      refine Qm ?_
      refine WL.run (d := 65) Q0 Q0 ?_
      refine WL.callp hs Q0 (Yc.func Q0 fn14) (c_impl_MarkupOf _ _ (by first | omega | (simp only [List.length_map]; omega))) ?_
      clear hs; intro w hs
      refine WL.run (d := 65) Q0 Q0 ?_
      refine WL.p Q0 (Yl.len_str str9 Q0) ?_
      refine WL.run (d := 65) Q0 Q0 ?_
      refine Qm ?_
      refine WL.run (d := 65) Q0 Q0 ?_
      refine WL.p Q0 (Yl.len_str str9 Q0) ?_
      refine WL.run (d := 65) Q0 Q0 ?_
      refine WL.p Q0 (Yl.eqi Q0 Q0) ?_
      refine WL.p Q0 (Yl.pickT Q0 Q0) ?_
      refine Qa ?_
      refine WL.next ?_
      refine WC.ret ?_
      refine fin1' rfl Q0 ?_
      refine RetP.mk hs ?_
      first
       | rfl
       | (clear hs; simp_all; done)
       | (clear hs; simp_all [List.map_map, Function.comp_def]; done)
     ·
      replace h4 := of_decide_eq_false h4
      refine WL.skip (d := 65) Q0 Q0 Q0 Q0 ?_
      refine WL.skip (d := 65) Q0 Q0 Q0 Q0 ?_
      refine WL.skip (d := 65) Q0 Q0 Q0 Q0 ?_
      refine WL.skip (d := 65) Q0 Q0 Q0 Q0 ?_
      refine WL.skip (d := 65) Q0 Q0 Q0 Q0 ?_
      refine WL.skip (d := 65) Q0 Q0 Q0 Q0 ?_
      refine WL.p Q0 (Yl.pickF Q0 Q0) ?_
      refine Qa ?_
      refine WL.next ?_
      refine WC.ret ?_
      refine fin1' rfl Q0 ?_
      refine RetP.mk hs ?_
      first
       | rfl
       | (clear hs; simp_all; done)
       | (clear hs; simp_all [List.map_map, Function.comp_def]; done)
    ·
     replace h3 := beq_false h3
     refine WL.skip (d := 57) Q0 Q0 Q0 Q0 ?_
     refine WL.skip (d := 57) Q0 Q0 Q0 Q0 ?_
     refine WL.skip (d := 57) Q0 Q0 Q0 Q0 ?_
     refine WL.skip (d := 57) Q0 Q0 Q0 Q0 ?_
     refine WL.skip (d := 57) Q0 Q0 Q0 Q0 ?_
     refine WL.skip (d := 57) Q0 Q0 Q0 Q0 ?_
     refine WL.p Q0 (Yl.pickF Q0 Q0) ?_
     refine Qm ?_
     refine WL.skip (d := 65) Q0 Q0 Q0 Q0 ?_
     refine WL.skip (d := 65) Q0 Q0 Q0 Q0 ?_
     refine WL.skip (d := 65) Q0 Q0 Q0 Q0 ?_
     refine WL.skip (d := 65) Q0 Q0 Q0 Q0 ?_
     refine WL.skip (d := 65) Q0 Q0 Q0 Q0 ?_
     refine WL.skip (d := 65) Q0 Q0 Q0 Q0 ?_
     refine WL.p Q0 (Yl.pickF Q0 Q0) ?_
     refine Qa ?_
     refine WL.next ?_
     refine WC.ret ?_
     refine fin1' rfl Q0 ?_
     refine RetP.mk hs ?_
     first
      | rfl
      | (clear hs; simp_all; done)
      | (clear hs; simp_all [List.map_map, Function.comp_def]; done)
   ·
    replace h2 := of_decide_eq_false h2
    refine WL.skip (d := 50) Q0 Q0 Q0 Q0 ?_
    refine WL.skip (d := 50) Q0 Q0 Q0 Q0 ?_
    refine WL.skip (d := 50) Q0 Q0 Q0 Q0 ?_
    refine WL.skip (d := 50) Q0 Q0 Q0 Q0 ?_
    refine WL.skip (d := 50) Q0 Q0 Q0 Q0 ?_
    refine WL.p Q0 (Yl.pickF Q0 Q0) ?_
    refine Qm ?_
    refine WL.skip (d := 57) Q0 Q0 Q0 Q0 ?_
    refine WL.skip (d := 57) Q0 Q0 Q0 Q0 ?_
    refine WL.skip (d := 57) Q0 Q0 Q0 Q0 ?_
    refine WL.skip (d := 57) Q0 Q0 Q0 Q0 ?_
    refine WL.skip (d := 57) Q0 Q0 Q0 Q0 ?_
    refine WL.skip (d := 57) Q0 Q0 Q0 Q0 ?_
    refine WL.p Q0 (Yl.pickF Q0 Q0) ?_
    refine Qm ?_
    refine WL.skip (d := 65) Q0 Q0 Q0 Q0 ?_
    refine WL.skip (d := 65) Q0 Q0 Q0 Q0 ?_
    refine WL.skip (d := 65) Q0 Q0 Q0 Q0 ?_
    refine WL.skip (d := 65) Q0 Q0 Q0 Q0 ?_
    refine WL.skip (d := 65) Q0 Q0 Q0 Q0 ?_
    refine WL.skip (d := 65) Q0 Q0 Q0 Q0 ?_
    refine WL.p Q0 (Yl.pickF Q0 Q0) ?_
    refine Qa ?_
    refine WL.next ?_
    refine WC.ret ?_
    refine fin1' rfl Q0 ?_
    refine RetP.mk hs ?_
    first
     | rfl
     | (clear hs; simp_all; done)
     | (clear hs; simp_all [List.map_map, Function.comp_def]; done)

end Go.Sw
