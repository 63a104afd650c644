/- Walks: what each function of the program returns, for every input. Printed by gen.py. -/
import Derived.Test.YtdpifpainiiblaaGreatDoorFx
set_option linter.all false
namespace Go.Sw
open Go Go.RowKit Go.Proofs

theorem c_laws_big (code : (Sl UInt8)) (w : World) (h_code : Ph.ok w code)  : Calls Tryz.prog 5 [Sl.v code].toArray w (RetP w (Bo (decide (1048576 < (code.l.length : Int))))) := by
 refine enterN 6 Tryz.func5 rfl rfl rfl ?_
 have hs := Sat.start w
 refine WC.seq ?_
 refine Qa ?_
 refine WL.next ?_
 refine WC.seq ?_
 refine Qm ?_
 refine WL.p Q0 (Yl.len_sl slu22 Q0) ?_
 refine WL.p Q0 (Yl.gtr Q0 Q0) ?_
 refine Qa ?_
 refine WL.next ?_
 refine WC.ret ?_
 refine fin1' rfl Q0 ?_
 refine RetP.mk hs ?_
 rfl

theorem c_spec_l1New (code : (Sl UInt8)) (w : World) (h_code : Ph.ok w code)  : Calls Tryz.prog 25 [Sl.v code].toArray w (RetN 93 code w) := by
 have hw := h_code.lt
 refine enterN 32 Tryz.func25 rfl rfl rfl ?_
 have hs := Sat.start w
 refine WC.seq ?_
 refine Qa ?_
 refine WL.next ?_
 refine WC.seq ?_
 refine Qm ?_
 refine WL.p Q0 (Yl.len_sl slu22 Q0) ?_
 refine WL.p Q0 (Yl.addw Q0 Q0) ?_
 refine Qa ?_
 refine WL.next ?_
 refine WC.seq' ?_
 refine WC.seq ?_
 refine Qa ?_
 refine WL.next ?_
 refine WC.block ?_
 refine WC.loopC (ι := Nat × Int) (fun ⟨k, g⟩ => code.l.length - k) (fun ⟨k, g⟩ => [(3, I g), (4, I (k : Int))]) (fun _ => []) (fun ⟨k, g⟩ => k ≤ code.l.length) [(0, _), (2, _)] (0, _) (hs) ⟨by rfl, by rfl, trivial⟩ ⟨by rfl, by rfl, trivial⟩ ?_ ?_
 ·
  exact Nat.zero_le _
 clear hs; rintro ⟨k, g⟩ w hJ hs
 simp only [List.nil_append] at hs
 refine WC.seq' ?_
 refine WC.seq ?_
 refine Qm ?_
 refine Qm ?_
 refine WL.p Q0 (Yl.len_sl slu22 Q0) ?_
 refine WL.p Q0 (Yl.lss Q0 Q0) ?_
 refine Qm ?_
 refine WL.split (d := 12) Q0 (fun h1 => ?_) (fun h1 => ?_)
 ·
  replace h1 := of_decide_eq_true h1
  refine WL.run (d := 12) Q0 Q0 ?_
  refine Qm ?_
  refine WL.run (d := 12) Q0 Q0 ?_
  refine WL.p Q0 (Yl.lss Q0 Q0) ?_
  refine WL.p Q0 (Yl.pickT Q0 Q0) ?_
  refine WL.next ?_
  refine WC.condS Q0 (fun h2 => ?_) (fun h2 => ?_)
  ·
   replace h2 := of_decide_eq_true h2
   obtain ⟨d, hd⟩ := exists_get (l := code.l) (k := k) Q7
   refine WC.skipn ?_
   refine WC.seq' ?_
   refine WC.block ?_
   refine WC.region ?_
   refine Qm ?_
   refine WL.p Q0 (Yl.mulw Q0 Q0) ?_
   refine Qm ?_
   refine Qm ?_
   refine WL.p Q0 (Yl.indexAddr slt22 Q0 Q0 (Ph.old h_code hs) Q0 (hd)) ?_
   refine WL.p Q0 (Yl.loadC0 sca5 Q0 (Sl.Ok.at_ (Ph.old h_code hs) (by assumption)).2 Q0) ?_
   refine WL.p Q0 (Yl.byteInt Q6 i64t3 Q0) ?_
   refine WL.p Q0 (Yl.addw Q0 Q0) ?_
   refine WL.p Q0 (Yl.addw Q0 Q0) ?_
   refine WL.p Q0 (Yl.andb Q0 Q0) ?_
   refine Qa ?_
   refine WL.nil ?_
   refine At.blocknormal ?_
   refine At.then_ ?_
   refine WC.region ?_
   refine Qm ?_
   refine WL.p Q0 (Yl.addw Q0 Q0) ?_
   refine Qa ?_
   refine WL.nil ?_
   refine At.roundC (k + 1, _) (hs.only Q2) ⟨by rfl, by rfl, trivial⟩ ⟨by rfl, by exact congrArg (fun z => some (I z)) (wrap_in Q7), trivial⟩ ?_ ?_
   ·
    show code.l.length - (k + 1) < code.l.length - k
    omega
   ·
    show k + 1 ≤ code.l.length
    omega
  ·
   replace h2 := of_decide_eq_false h2
   refine WC.exit ?_
   refine At.thenexit ?_
   refine At.thenexit ?_
   refine At.blockexit ?_
   refine At.then_ ?_
   refine WC.seq ?_
   refine Qm ?_
   refine Qm ?_
   refine WL.p Q0 (Yl.build bt93 Q0 Q4) ?_
   refine WL.r Q0 (Yr.box hs Q0 Q0) ?_
   clear hs; rintro _ w ⟨b1, rfl, hb, hs⟩; clear hb
   refine Qa ?_
   refine WL.next ?_
   refine WC.ret ?_
   refine fin1' rfl Q0 ?_
   refine RetN.mk hs Q1 rfl ?_ ?_
   · omega
   · omega
 ·
  replace h1 := of_decide_eq_false h1
  refine WL.skip (d := 12) Q0 Q0 Q0 Q0 ?_
  refine WL.skip (d := 12) Q0 Q0 Q0 Q0 ?_
  refine WL.p Q0 (Yl.pickF Q0 Q0) ?_
  refine WL.next ?_
  refine WC.condF Q0 ?_
  refine WC.exit ?_
  refine At.thenexit ?_
  refine At.thenexit ?_
  refine At.blockexit ?_
  refine At.then_ ?_
  refine WC.seq ?_
  refine Qm ?_
  refine Qm ?_
  refine WL.p Q0 (Yl.build bt93 Q0 Q4) ?_
  refine WL.r Q0 (Yr.box hs Q0 Q0) ?_
  clear hs; rintro _ w ⟨b2, rfl, hb, hs⟩; clear hb
  refine Qa ?_
  refine WL.next ?_
  refine WC.ret ?_
  refine fin1' rfl Q0 ?_
  refine RetN.mk hs Q1 rfl ?_ ?_
  · omega
  · omega

theorem c_spec_l1Byte (c : Nat) (b_ : Sl UInt8) (w : World)   (h_c : CurAt 93 b_ c w) (hb_c : CurB w b_ c) : Calls Tryz.prog 72 [bp c 0].toArray w (RetD 93 b_ c w (fun v w' => ∃ (x : Int), v = I x ∧ (Ph.ok w' x) ∧ (0 ≤ x ∧ x ≤ 255) ∧ True)) := by
 refine enterN 58 Tryz.func72 rfl rfl rfl ?_
 have hs := Sat.startC h_c
 obtain ⟨i0, g0, hi0, hi1, hs⟩ := hs.curopen
 have hwb := hb_c.ok.lt
 refine WC.seq ?_
 refine Qa ?_
 refine WL.next ?_
 refine WC.seq ?_
 refine Qm ?_
 refine Qm ?_
 refine WL.p Q0 (Yl.nilCheck Q0) ?_
 refine WL.p Q0 (Yl.fieldAddr fa93_2 Q0) ?_
 refine WL.p Q0 (Yl.loadB sca3 Q0 hs Q1 Q0) ?_
 refine WL.p Q0 (Yl.mulw Q0 Q0) ?_
 refine WL.p Q0 (Yl.addw Q0 Q0) ?_
 refine WL.p Q0 (Yl.nilCheck Q0) ?_
 refine WL.p Q0 (Yl.fieldAddr fa93_2 Q0) ?_
 refine WL.s (Yr.storeB hs Q0 Q0 Q0 Q5 Q3 Q0 (by exact szf3)) ?_
 clear hs; rintro _ w hs
 refine WL.next ?_
 refine WC.quietn mixed Q6 hs ?_
 refine WQ.p Q0 (fun w hs => Yl.move Q0) ?_
 refine WQ.p Q0 (fun w hs => Yl.nilCheck Q0) ?_
 refine WQ.p Q0 (fun w hs => Yl.fieldAddr fa93_2 Q0) ?_
 refine WQ.p Q0 (fun w hs => Yl.loadB sca3 Q0 hs Q1 Q0) ?_
 refine WQ.p Q0 (fun w hs => Yl.shr Q0 Q0 (by decide)) ?_
 refine WQ.p Q0 (fun w hs => Yl.move Q0) ?_
 refine WQ.p Q0 (fun w hs => Yl.nilCheck Q0) ?_
 refine WQ.p Q0 (fun w hs => Yl.fieldAddr fa93_2 Q0) ?_
 refine WQ.p Q0 (fun w hs => Yl.loadB sca3 Q0 hs Q1 Q0) ?_
 refine WQ.p Q0 (fun w hs => Yl.shr Q0 Q0 (by decide)) ?_
 refine WQ.p Q0 (fun w hs => Yl.xorb Q0 Q0) ?_
 refine WQ.p Q0 (fun w hs => Yl.andb Q0 Q0) ?_
 refine WQ.p Q0 (fun w hs => Yl.assign Q0) ?_
 refine WQ.next ?_
 clear hs; intro w hs
 refine WC.seq' ?_
 refine WC.quietn mixed Q6 hs ?_
 refine WQ.p Q0 (fun w hs => Yl.move Q0) ?_
 refine WQ.p Q0 (fun w hs => Yl.nilCheck Q0) ?_
 refine WQ.p Q0 (fun w hs => Yl.fieldAddr fa93_1 Q0) ?_
 refine WQ.p Q0 (fun w hs => Yl.loadB sca3 Q0 hs Q1 Q0) ?_
 refine WQ.p Q0 (fun w hs => Yl.move Q0) ?_
 refine WQ.p Q0 (fun w hs => Yl.nilCheck Q0) ?_
 refine WQ.p Q0 (fun w hs => Yl.fieldAddr fa93_0 Q0) ?_
 refine WQ.p Q0 (fun w hs => Yl.loadB sca22 Q0 hs Q1 Q0) ?_
 refine WQ.p Q0 (fun w hs => Yl.len_sl slu22 Q0) ?_
 refine WQ.p Q0 (fun w hs => Yl.lss Q0 Q0) ?_
 refine WQ.next ?_
 clear hs; intro w hs
 refine WC.condS Q0 (fun h1 => ?_) (fun h1 => ?_)
 ·
  replace h1 := of_decide_eq_true h1
  obtain ⟨d9, hd9⟩ := exists_get (l := b_.l) (k := i0.toNat) Q7
  refine WC.quietn mixed Q6 hs ?_
  refine WQ.p Q0 (fun w hs => Yl.move Q0) ?_
  refine WQ.p Q0 (fun w hs => Yl.move Q0) ?_
  refine WQ.p Q0 (fun w hs => Yl.nilCheck Q0) ?_
  refine WQ.p Q0 (fun w hs => Yl.fieldAddr fa93_0 Q0) ?_
  refine WQ.p Q0 (fun w hs => Yl.loadB sca22 Q0 hs Q1 Q0) ?_
  refine WQ.p Q0 (fun w hs => Yl.move Q0) ?_
  refine WQ.p Q0 (fun w hs => Yl.nilCheck Q0) ?_
  refine WQ.p Q0 (fun w hs => Yl.fieldAddr fa93_1 Q0) ?_
  refine WQ.p Q0 (fun w hs => Yl.loadB sca3 Q0 hs Q1 Q0) ?_
  refine WQ.p Q0 (fun w hs => Yl.indexAddr (k := i0.toNat) slt22 Q0 Q0 (Apart.now hb_c hs).ok Q7 (hd9)) ?_
  refine WQ.p Q0 (fun w hs => Yl.loadC0 sca5 Q0 (Sl.Ok.at_ (Apart.now hb_c hs).ok (hd9)).2 Q0) ?_
  refine WQ.p Q0 (fun w hs => Yl.byteInt Q6 i64t3 Q0) ?_
  refine WQ.p Q0 (fun w hs => Yl.addw Q0 Q0) ?_
  refine WQ.p Q0 (fun w hs => Yl.andb Q0 Q0) ?_
  refine WQ.p Q0 (fun w hs => Yl.assign Q0) ?_
  refine WQ.next ?_
  clear hs; intro w hs
  refine WC.region ?_
  refine Qm ?_
  refine Qm ?_
  refine WL.p Q0 (Yl.nilCheck Q0) ?_
  refine WL.p Q0 (Yl.fieldAddr fa93_1 Q0) ?_
  refine WL.p Q0 (Yl.loadB sca3 Q0 hs Q1 Q0) ?_
  refine WL.p Q0 (Yl.add Q0 Q0 Q7) ?_
  refine WL.p Q0 (Yl.nilCheck Q0) ?_
  refine WL.p Q0 (Yl.fieldAddr fa93_1 Q0) ?_
  refine WL.s (Yr.storeB hs Q0 Q0 Q0 Q5 Q3 Q0 (by exact szf3)) ?_
  clear hs; rintro _ w hs
  refine WL.nil ?_
  refine At.then_ ?_
  refine WC.seq ?_
  refine Qm ?_
  refine Qa ?_
  refine WL.next ?_
  refine WC.ret ?_
  refine fin1' rfl Q0 ?_
  replace hs := Sat.curclose (b := b_) (hs.sel (D := [box c _ _]) Q2) rfl Q7 Q7
  try simp only [List.cons_append, List.nil_append] at hs
  refine RetD.mk hs Q1 ?_
  refine ⟨_, rfl, (by first | exact and255_wf _ | trivial | assumption | exact Flat.any (by assumption) | exact ⟨by omega, by omega⟩ | (show WfS _; unfold WfS; omega) | (show WfS _; unfold WfS; simp only [List.length_append, List.length_cons, List.length_nil] at *; omega) | (refine Ph.old ?_ hs; assumption)), ?_, ?_⟩
  ·
   exact and255 _
  ·
   trivial
 ·
  replace h1 := of_decide_eq_false h1
  refine WC.skipn ?_
  refine WC.seq ?_
  refine Qm ?_
  refine Qa ?_
  refine WL.next ?_
  refine WC.ret ?_
  refine fin1' rfl Q0 ?_
  replace hs := Sat.curclose (b := b_) (hs.sel (D := [box c _ _]) Q2) rfl Q7 Q7
  try simp only [List.cons_append, List.nil_append] at hs
  refine RetD.mk hs Q1 ?_
  refine ⟨_, rfl, (by first | exact and255_wf _ | exact (show WfI ((andI (xorI (shrI (IntKind.i64.wrap ((IntKind.i64.wrap (g0 * 6364136223846793005)) + 1442695040888963407)) 33) (shrI (IntKind.i64.wrap ((IntKind.i64.wrap (g0 * 6364136223846793005)) + 1442695040888963407)) 47)) 255)) from ⟨by omega, by omega⟩) | trivial | assumption | exact Flat.any (by assumption) | exact ⟨by omega, by omega⟩ | (show WfS _; unfold WfS; omega) | (show WfS _; unfold WfS; simp only [List.length_append, List.length_cons, List.length_nil] at *; omega) | (refine Ph.old ?_ hs; assumption)), ?_, ?_⟩
  ·
   exact and255 _
  ·
   trivial

theorem c_spec_l1Below (c : Nat) (b_ : Sl UInt8) (n : Int) (w : World)   (h_c : CurAt 93 b_ c w) (hb_c : CurB w b_ c) : Calls Tryz.prog 46 [bp c 0, I n].toArray w (RetD 93 b_ c w (fun v w' => ∃ (x : Int), v = I x ∧ (Ph.ok w' x) ∧ (0 ≤ x ∧ (n ≤ 0 → x = 0) ∧ (0 < n → x < n)) ∧ True)) := by
 have hq : ∀ a : Int, 0 ≤ a → 0 < n → 0 ≤ a.tmod n ∧ a.tmod n < n ∧ a.tmod n ≤ a := fun a h1 h2 => tmod_bd h1 h2
 refine enterN 31 Tryz.func46 rfl rfl rfl ?_
 have hs := Sat.startC h_c
 refine WC.seq ?_
 refine Qa ?_
 refine WL.next ?_
 refine WC.seq' ?_
 refine WC.seq ?_
 refine Qm ?_
 refine WL.p Q0 (Yl.leq Q0 Q0) ?_
 refine WL.next ?_
 refine WC.condS Q0 (fun h1 => ?_) (fun h1 => ?_)
 ·
  replace h1 := of_decide_eq_true h1
  refine WC.seq ?_
  refine Qa ?_
  refine WL.next ?_
  refine WC.ret ?_
  refine At.thenret ?_
  refine fin1' rfl Q0 ?_
  refine RetD.mk hs Q1 ?_
  refine ⟨_, rfl, (by first | exact (show WfI 0 from ⟨by omega, by omega⟩) | trivial | assumption | exact Flat.any (by assumption) | exact ⟨by omega, by omega⟩ | (show WfS _; unfold WfS; omega) | (show WfS _; unfold WfS; simp only [List.length_append, List.length_cons, List.length_nil] at *; omega) | (refine Ph.old ?_ hs; assumption)), ?_, ?_⟩
  ·
   first | exact ⟨by omega, fun h => by omega, fun h => by omega⟩
  ·
   trivial
 ·
  replace h1 := of_decide_eq_false h1
  refine WC.skipn ?_
  refine WC.seq' ?_
  refine WC.seq ?_
  refine Qm ?_
  refine WL.p Q0 (Yl.leq Q0 Q0) ?_
  refine WL.next ?_
  refine WC.condS Q0 (fun h2 => ?_) (fun h2 => ?_)
  ·
   replace h2 := of_decide_eq_true h2
   refine WC.seq ?_
   refine Qm ?_
   refine WL.calld hs (T := 93) (b := b_) (c := c) Q2 Q0 (Yc.func Q0 fn72) (c_spec_l1Byte c b_ _ (hs.cur Q1) (Apart.now hb_c hs)) ?_
   clear hs; intro v w ho hR hs
   obtain ⟨x1, rfl, hokx1, hx1, hf1⟩ := hR
   clear ho hf1
   refine Qm ?_
   refine WL.p Q0 (Yl.remw Q0 Q0 Q7) ?_
   refine Qa ?_
   refine WL.next ?_
   refine WC.ret ?_
   refine At.thenret ?_
   refine fin1' rfl Q0 ?_
   have h9 := hq x1 Q7 Q7
   refine RetD.mk hs Q1 ?_
   refine ⟨_, rfl, (by first | exact (show WfI ((Int.tmod x1 n)) from ⟨by omega, by omega⟩) | trivial | assumption | exact Flat.any (by assumption) | exact ⟨by omega, by omega⟩ | (show WfS _; unfold WfS; omega) | (show WfS _; unfold WfS; simp only [List.length_append, List.length_cons, List.length_nil] at *; omega) | (refine Ph.old ?_ hs; assumption)), ?_, ?_⟩
   ·
    first | exact ⟨by omega, fun h => by omega, fun h => by omega⟩
   ·
    trivial
  ·
   replace h2 := of_decide_eq_false h2
   refine WC.skipn ?_
   refine WC.seq ?_
   refine Qm ?_
   refine WL.calld hs (T := 93) (b := b_) (c := c) Q2 Q0 (Yc.func Q0 fn72) (c_spec_l1Byte c b_ _ (hs.cur Q1) (Apart.now hb_c hs)) ?_
   clear hs; intro v w ho hR hs
   obtain ⟨x2, rfl, hokx2, hx2, hf2⟩ := hR
   clear ho hf2
   refine Qa ?_
   refine WL.next ?_
   refine WC.seq ?_
   refine Qm ?_
   refine WL.calld hs (T := 93) (b := b_) (c := c) Q2 Q0 (Yc.func Q0 fn72) (c_spec_l1Byte c b_ _ (hs.cur Q1) (Apart.now hb_c hs)) ?_
   clear hs; intro v w ho hR hs
   obtain ⟨x3, rfl, hokx3, hx3, hf3⟩ := hR
   clear ho hf3
   refine Qa ?_
   refine WL.next ?_
   refine WC.seq ?_
   refine Qm ?_
   refine WL.calld hs (T := 93) (b := b_) (c := c) Q2 Q0 (Yc.func Q0 fn72) (c_spec_l1Byte c b_ _ (hs.cur Q1) (Apart.now hb_c hs)) ?_
   clear hs; intro v w ho hR hs
   obtain ⟨x4, rfl, hokx4, hx4, hf4⟩ := hR
   clear ho hf4
   refine Qa ?_
   refine WL.next ?_
   refine WC.seq ?_
   refine Qm ?_
   refine WL.p Q0 (Yl.mul Q0 Q0 Q7) ?_
   refine Qm ?_
   refine WL.p Q0 (Yl.mul Q0 Q0 Q7) ?_
   refine WL.p Q0 (Yl.add Q0 Q0 Q7) ?_
   refine Qm ?_
   refine WL.p Q0 (Yl.add Q0 Q0 Q7) ?_
   refine Qm ?_
   refine WL.p Q0 (Yl.remw Q0 Q0 Q7) ?_
   refine Qa ?_
   refine WL.next ?_
   refine WC.ret ?_
   refine fin1' rfl Q0 ?_
   have h9 := hq (((x2 * 65536) + (x3 * 256)) + x4) Q7 Q7
   refine RetD.mk hs Q1 ?_
   refine ⟨_, rfl, (by first | exact (show WfI ((Int.tmod (((x2 * 65536) + (x3 * 256)) + x4) n)) from ⟨by omega, by omega⟩) | trivial | assumption | exact Flat.any (by assumption) | exact ⟨by omega, by omega⟩ | (show WfS _; unfold WfS; omega) | (show WfS _; unfold WfS; simp only [List.length_append, List.length_cons, List.length_nil] at *; omega) | (refine Ph.old ?_ hs; assumption)), ?_, ?_⟩
   ·
    first | exact ⟨by omega, fun h => by omega, fun h => by omega⟩
   ·
    trivial

theorem c_spec_l1Once (c : Nat) (b_ : Sl UInt8) (n : Int) (w : World)   (h_c : CurAt 93 b_ c w) (hb_c : CurB w b_ c) : Calls Tryz.prog 26 [bp c 0, I n].toArray w (RetD 93 b_ c w (fun v w' => ∃ (x : Bool), v = Bo x ∧ (True) ∧ (True) ∧ True)) := by
 refine enterN 9 Tryz.func26 rfl rfl rfl ?_
 have hs := Sat.startC h_c
 refine WC.seq ?_
 refine Qa ?_
 refine WL.next ?_
 refine WC.seq ?_
 refine Qm ?_
 refine Qm ?_
 refine WL.calld hs (T := 93) (b := b_) (c := c) Q2 Q0 (Yc.func Q0 fn46) (c_spec_l1Below c b_ _ _ (hs.cur Q1) (Apart.now hb_c hs)) ?_
 clear hs; intro v w ho hR hs
 obtain ⟨x1, rfl, hokx1, hx1, hf1⟩ := hR
 clear ho hf1
 refine WL.p Q0 (Yl.eqi Q0 Q0) ?_
 refine Qa ?_
 refine WL.next ?_
 refine WC.ret ?_
 refine fin1' rfl Q0 ?_
 refine RetD.mk hs Q1 ?_
 refine ⟨_, rfl, trivial, ?_, ?_⟩
 ·
  trivial
 ·
  trivial

theorem c_spec_l1Str (c : Nat) (b_ : Sl UInt8) (list : (Sl Str)) (w : World) (h_list : Apart w list c) (hne : 0 < list.l.length) (h_c : CurAt 93 b_ c w) (hb_c : CurB w b_ c) : Calls Tryz.prog 28 [bp c 0, Sl.v list].toArray w (RetD 93 b_ c w (fun v w' => ∃ (x : Str), v = S x ∧ (Ph.ok w' x) ∧ (x ∈ list.l) ∧ True)) := by
 have hw := h_list.ok.lt
 refine enterN 12 Tryz.func28 rfl rfl rfl ?_
 have hs := Sat.startC h_c
 refine WC.seq ?_
 refine Qa ?_
 refine WL.next ?_
 refine WC.seq ?_
 refine Qm ?_
 refine Qm ?_
 refine Qm ?_
 refine WL.p Q0 (Yl.len_sl slu48 Q0) ?_
 refine WL.calld hs (T := 93) (b := b_) (c := c) Q2 Q0 (Yc.func Q0 fn46) (c_spec_l1Below c b_ _ _ (hs.cur Q1) (Apart.now hb_c hs)) ?_
 clear hs; intro v w ho hR hs
 obtain ⟨x1, rfl, hokx1, hx1, hf1⟩ := hR
 clear ho hf1
 have hb9 := hx1.2.2 Q7
 obtain ⟨d9, hd9⟩ := exists_get (l := list.l) (k := (x1).toNat) Q7
 refine WL.p Q0 (Yl.indexAddr (k := (x1).toNat) slt48 Q0 Q0 (Apart.now h_list hs).ok Q7 (hd9)) ?_
 refine WL.p Q0 (Yl.loadC0 sca9 Q0 (Sl.Ok.at_ (Apart.now h_list hs).ok (hd9)).2 Q0) ?_
 refine Qa ?_
 refine WL.next ?_
 refine WC.ret ?_
 refine fin1' rfl Q0 ?_
 refine RetD.mk hs Q1 ?_
 refine ⟨_, rfl, (by first | exact (Apart.now h_list hs).ok.elem hd9 | trivial | assumption | exact Flat.any (by assumption) | exact ⟨by omega, by omega⟩ | (show WfS _; unfold WfS; omega) | (show WfS _; unfold WfS; simp only [List.length_append, List.length_cons, List.length_nil] at *; omega) | (refine Ph.old ?_ hs; assumption)), ?_, ?_⟩
 ·
  exact List.mem_of_getElem? hd9
 ·
  trivial

theorem c_spec_l7Text (c : Nat) (b_ : Sl UInt8) (w : World)   (h_c : CurAt 93 b_ c w) (hb_c : CurB w b_ c) : Calls Tryz.prog 27 [bp c 0].toArray w (RetD 93 b_ c w (fun v w' => ∃ (x : Str), v = S x ∧ (Ph.ok w' x) ∧ (x.length ≤ 30) ∧ True)) := by
 refine enterN 23 Tryz.func27 rfl rfl rfl ?_
 have hs := Sat.startC h_c
 refine WC.seq ?_
 refine Qa ?_
 refine WL.next ?_
 refine WC.seq ?_
 refine Qa ?_
 refine WL.next ?_
 refine WC.seq' ?_
 refine WC.seq ?_
 refine Qm ?_
 refine WL.calld hs (T := 93) (b := b_) (c := c) Q2 Q0 (Yc.func Q0 fn46) (c_spec_l1Below c b_ _ _ (hs.cur Q1) (Apart.now hb_c hs)) ?_
 clear hs; intro v w ho hR hs
 obtain ⟨x1, rfl, hokx1, hx1, hf1⟩ := hR
 clear ho hf1
 replace hx1 : 0 ≤ x1 ∧ x1 < 4 := ⟨hx1.1, hx1.2.2 (by decide)⟩
 refine Qa ?_
 refine WL.next ?_
 refine WC.block ?_
 refine WC.loopC (ι := Int × Str) (fun ⟨m, t⟩ => m.toNat) (fun ⟨m, t⟩ => [(3, S t), (4, I m)]) (fun _ => []) (fun ⟨m, t⟩ => 0 ≤ m ∧ m ≤ 3 ∧ (t.length : Int) ≤ (3 - m) * 10) [(0, _), (2, _)] (_, []) (hs) ⟨by rfl, by rfl, trivial⟩ ⟨by rfl, by rfl, trivial⟩ ?_ ?_
 ·
  refine ⟨by omega, by omega, ?_⟩
  simp only [List.length_nil]; omega
 clear hs; rintro ⟨m, t⟩ w ⟨hJ1, hJ2, hJ3⟩ hs
 simp only [List.nil_append] at hs
 refine WC.seq' ?_
 refine WC.seq ?_
 refine Qm ?_
 refine WL.p Q0 (Yl.gtr Q0 Q0) ?_
 refine WL.next ?_
 refine WC.condS Q0 (fun h1 => ?_) (fun h1 => ?_)
 ·
  replace h1 := of_decide_eq_true h1
  have hwt : t.length ≤ 9223372036854775807 := by omega
  refine WC.skipn ?_
  refine WC.seq' ?_
  refine WC.block ?_
  refine WC.region ?_
  refine Qm ?_
  refine Qm ?_
  refine WL.r Q0 (Yr.buildSlice hs sll48 Q0 Q0 Q0 Q4 Q0) ?_
  clear hs; rintro _ w ⟨b2, rfl, hb, hs⟩; clear hb
  replace hs := Sat.boxow (l := ([([112] : Str), ([98] : Str), ([112, 97, 103, 101] : Str), ([80] : Str), ([] : Str)] : List Str)) (hs.sel (D := [box b2 _ _]) Q2) rfl rfl (by decide) (ownL_mk_flat (lit_str Q0))
  try simp only [List.cons_append, List.nil_append] at hs
  refine WL.calld hs (T := 93) (b := b_) (c := c) Q2 Q0 (Yc.func Q0 fn28) (c_spec_l1Str c b_ (⟨[([112] : Str), ([98] : Str), ([112, 97, 103, 101] : Str), ([80] : Str), ([] : Str)], some ⟨b2, 0, none⟩, 5⟩ : Sl Str) _ (Apart.own (s := (⟨[([112] : Str), ([98] : Str), ([112, 97, 103, 101] : Str), ([80] : Str), ([] : Str)], some ⟨b2, 0, none⟩, 5⟩ : Sl Str)) (F := [b2]) hs Q2) (by exact Nat.succ_pos _) (hs.cur Q1) (Apart.now hb_c hs)) ?_
  clear hs; intro v w ho hR hs
  obtain ⟨x3, rfl, hokx3, hx3, hf3⟩ := hR
  clear ho hf3
  replace hx3 : x3 ∈ ([([112] : Str), ([98] : Str), ([112, 97, 103, 101] : Str), ([80] : Str), ([] : Str)] : List Str) := hx3
  have hn3 := mem_len 4 hx3 Q0
  refine WL.p Q0 (Yl.cat Q0 Q0 (by simp only [List.length_append, List.length_cons, List.length_nil] at *; omega)) ?_
  refine WL.p Q0 (Yl.cat Q0 Q0 (by simp only [List.length_append, List.length_cons, List.length_nil] at *; omega)) ?_
  refine Qm ?_
  refine WL.r Q0 (Yr.buildSlice hs sll48 Q0 Q0 Q0 Q4 Q0) ?_
  clear hs; rintro _ w ⟨b4, rfl, hb, hs⟩; clear hb
  replace hs := Sat.boxow (l := ([([49] : Str), ([55] : Str), ([57, 57, 57] : Str), ([49, 48, 48, 48] : Str), ([48] : Str), ([120] : Str)] : List Str)) (hs.sel (D := [box b4 _ _]) Q2) rfl rfl (by decide) (ownL_mk_flat (lit_str Q0))
  try simp only [List.cons_append, List.nil_append] at hs
  refine WL.calld hs (T := 93) (b := b_) (c := c) Q2 Q0 (Yc.func Q0 fn28) (c_spec_l1Str c b_ (⟨[([49] : Str), ([55] : Str), ([57, 57, 57] : Str), ([49, 48, 48, 48] : Str), ([48] : Str), ([120] : Str)], some ⟨b4, 0, none⟩, 6⟩ : Sl Str) _ (Apart.own (s := (⟨[([49] : Str), ([55] : Str), ([57, 57, 57] : Str), ([49, 48, 48, 48] : Str), ([48] : Str), ([120] : Str)], some ⟨b4, 0, none⟩, 6⟩ : Sl Str)) (F := [b4]) hs Q2) (by exact Nat.succ_pos _) (hs.cur Q1) (Apart.now hb_c hs)) ?_
  clear hs; intro v w ho hR hs
  obtain ⟨x5, rfl, hokx5, hx5, hf5⟩ := hR
  clear ho hf5
  replace hx5 : x5 ∈ ([([49] : Str), ([55] : Str), ([57, 57, 57] : Str), ([49, 48, 48, 48] : Str), ([48] : Str), ([120] : Str)] : List Str) := hx5
  have hn5 := mem_len 4 hx5 Q0
  refine WL.p Q0 (Yl.cat Q0 Q0 (by simp only [List.length_append, List.length_cons, List.length_nil] at *; omega)) ?_
  refine WL.p Q0 (Yl.cat Q0 Q0 (by simp only [List.length_append, List.length_cons, List.length_nil] at *; omega)) ?_
  refine Qa ?_
  refine WL.nil ?_
  refine At.blocknormal ?_
  refine At.then_ ?_
  refine WC.region ?_
  refine Qm ?_
  refine WL.p Q0 (Yl.sub_ Q0 Q0 Q7) ?_
  refine Qa ?_
  refine WL.nil ?_
  refine At.roundC (_, _) (hs.only Q2) ⟨by rfl, by rfl, trivial⟩ ⟨by rfl, by rfl, trivial⟩ ?_ ?_
  ·
   show (m - 1).toNat < m.toNat
   omega
  ·
   refine ⟨by omega, by omega, ?_⟩
   simp only [List.length_append, List.length_cons, List.length_nil] at *; omega
 ·
  replace h1 := of_decide_eq_false h1
  refine WC.exit ?_
  refine At.thenexit ?_
  refine At.thenexit ?_
  refine At.blockexit ?_
  refine At.then_ ?_
  refine WC.seq ?_
  refine Qm ?_
  refine Qa ?_
  refine WL.next ?_
  refine WC.ret ?_
  refine fin1' rfl Q0 ?_
  refine RetD.mk hs Q1 ?_
  refine ⟨_, rfl, (by first | exact (show WfS t from by unfold WfS; omega) | trivial | assumption | exact Flat.any (by assumption) | exact ⟨by omega, by omega⟩ | (show WfS _; unfold WfS; omega) | (show WfS _; unfold WfS; simp only [List.length_append, List.length_cons, List.length_nil] at *; omega) | (refine Ph.old ?_ hs; assumption)), ?_, ?_⟩
  ·
   repeat' apply And.intro
   all_goals (try dsimp only)
   all_goals first | trivial | assumption | omega | ((try simp only [List.length_append, List.length_cons, List.length_nil, lsz_app, lsz_one, lsz_cons, lsz_nil, TAddr.size, TResponse.size, TRequest.size, TPolicy.size, TEntry.size, TCache.size, strsz, TLine.size, TSent.size, TServer.size, TFile.size, List.map_append, List.map_cons, List.map_nil, PServer.lg, PPolicy.lg, PCache.lg] at *); first | omega | assumption)
  ·
   trivial

theorem c_spec_DrawParseSheet (code : (Sl UInt8)) (w : World) (h_code : Ph.ok w code)  : Calls Tryz.prog 6 [Sl.v code].toArray w (Ret w (fun v w' => ∃ (s : Str), v = S s ∧ (Ph.ok w' s) ∧ (s.length ≤ 40) ∧ True)) := by
 refine enterN 14 Tryz.func6 rfl rfl rfl ?_
 have hs := Sat.start w
 refine WC.seq ?_
 refine Qa ?_
 refine WL.next ?_
 refine WC.seq ?_
 refine Qm ?_
 refine WL.calln hs Q0 (Yc.func Q0 fn25) (c_spec_l1New _ _ (Ph.old h_code hs)) ?_
 clear hs; intro c1 w hs
 refine Qa ?_
 refine WL.next ?_
 refine WC.seq' ?_
 refine WC.seq ?_
 refine Qm ?_
 refine WL.calld hs (T := 93) (b := code) (c := c1) Q2 Q0 (Yc.func Q0 fn26) (c_spec_l1Once c1 code _ _ (hs.cur Q1) (Apart.new (by first | assumption) hs Q1)) ?_
 clear hs; intro v w ho hR hs
 obtain ⟨x2, rfl, _, hx2, hf2⟩ := hR
 clear ho hf2
 refine WL.next ?_
 refine WC.condS Q0 (fun h1 => ?_) (fun h1 => ?_)
 ·
  refine WC.seq ?_
  refine Qa ?_
  refine WL.next ?_
  refine WC.ret ?_
  refine At.thenret ?_
  refine fin1' rfl Q0 ?_
  refine Ret.mk hs ?_
  refine ⟨_, rfl, (by first | exact (show WfS [97, 58, 49, 59, 98, 58, 50, 59, 99, 58, 51, 59, 100, 58, 52, 59, 101, 58, 53, 59, 102, 58, 54, 59, 103, 58, 55, 59, 104, 58, 56, 59, 105, 58, 57] from (by unfold WfS; simp)) | trivial | assumption | exact Flat.any (by assumption) | exact ⟨by omega, by omega⟩ | (show WfS _; unfold WfS; omega) | (show WfS _; unfold WfS; simp only [List.length_append, List.length_cons, List.length_nil] at *; omega) | (refine Ph.old ?_ hs; assumption)), ?_, ?_⟩
  ·
   repeat' apply And.intro
   all_goals (try dsimp only)
   all_goals first | trivial | assumption | omega | ((try simp only [List.length_append, List.length_cons, List.length_nil, lsz_app, lsz_one, lsz_cons, lsz_nil, TAddr.size, TResponse.size, TRequest.size, TPolicy.size, TEntry.size, TCache.size, strsz, TLine.size, TSent.size, TServer.size, TFile.size, List.map_append, List.map_cons, List.map_nil, PServer.lg, PPolicy.lg, PCache.lg] at *); first | omega | assumption)
  ·
   trivial
 ·
  refine WC.skipn ?_
  refine WC.seq ?_
  refine Qm ?_
  refine WL.calld hs (T := 93) (b := code) (c := c1) Q2 Q0 (Yc.func Q0 fn27) (c_spec_l7Text c1 code _ (hs.cur Q1) (Apart.new (by first | assumption) hs Q1)) ?_
  clear hs; intro v w ho hR hs
  obtain ⟨x3, rfl, hokx3, hx3, hf3⟩ := hR
  clear ho hf3
  refine Qm ?_
  refine WL.r Q0 (Yr.buildSlice hs sll48 Q0 Q0 Q0 Q4 Q0) ?_
  clear hs; rintro _ w ⟨b4, rfl, hb, hs⟩; clear hb
  replace hs := Sat.boxow (l := ([([] : Str), ([98, 58, 53] : Str), ([98] : Str), ([58] : Str), ([98, 58, 53, 58, 54] : Str)] : List Str)) (hs.sel (D := [box b4 _ _]) Q2) rfl rfl (by decide) (ownL_mk_flat (lit_str Q0))
  try simp only [List.cons_append, List.nil_append] at hs
  refine WL.calld hs (T := 93) (b := code) (c := c1) Q2 Q0 (Yc.func Q0 fn28) (c_spec_l1Str c1 code (⟨[([] : Str), ([98, 58, 53] : Str), ([98] : Str), ([58] : Str), ([98, 58, 53, 58, 54] : Str)], some ⟨b4, 0, none⟩, 5⟩ : Sl Str) _ (Apart.own (s := (⟨[([] : Str), ([98, 58, 53] : Str), ([98] : Str), ([58] : Str), ([98, 58, 53, 58, 54] : Str)], some ⟨b4, 0, none⟩, 5⟩ : Sl Str)) (F := [b4]) hs Q2) (by exact Nat.succ_pos _) (hs.cur Q1) (Apart.new (by first | assumption) hs Q1)) ?_
  clear hs; intro v w ho hR hs
  obtain ⟨x5, rfl, hokx5, hx5, hf5⟩ := hR
  clear ho hf5
  replace hx5 : x5 ∈ ([([] : Str), ([98, 58, 53] : Str), ([98] : Str), ([58] : Str), ([98, 58, 53, 58, 54] : Str)] : List Str) := hx5
  have hn5 := mem_len 5 hx5 Q0
  refine WL.p Q0 (Yl.cat Q0 Q0 (by simp only [List.length_append, List.length_cons, List.length_nil] at *; omega)) ?_
  refine Qa ?_
  refine WL.next ?_
  refine WC.ret ?_
  refine fin1' rfl Q0 ?_
  refine Ret.mk hs ?_
  refine ⟨_, rfl, (by first | trivial | assumption | exact Flat.any (by assumption) | exact ⟨by omega, by omega⟩ | (show WfS _; unfold WfS; omega) | (show WfS _; unfold WfS; simp only [List.length_append, List.length_cons, List.length_nil] at *; omega) | (refine Ph.old ?_ hs; assumption)), ?_, ?_⟩
  ·
   repeat' apply And.intro
   all_goals (try dsimp only)
   all_goals first | trivial | assumption | omega | ((try simp only [List.length_append, List.length_cons, List.length_nil, lsz_app, lsz_one, lsz_cons, lsz_nil, TAddr.size, TResponse.size, TRequest.size, TPolicy.size, TEntry.size, TCache.size, strsz, TLine.size, TSent.size, TServer.size, TFile.size, List.map_append, List.map_cons, List.map_nil, PServer.lg, PPolicy.lg, PCache.lg] at *); first | omega | assumption)
  ·
   trivial

theorem c_strings_Split (s : Str) (sep : Str) (w : World)  (h1 : s.length ≤ 2097152) (h2 : sep = [sep.headD 0]) (hm_ : ∃ m, w.cell? ⟨0, 0, none⟩ = some (.int .i64 m)) : Calls Tryz.prog 29 [S s, S sep].toArray w (Ret w (fun v w' => ∃ x : Sl Str, v = x.v ∧ x.l = splitC (sep.headD 0) s ∧ Fresh w x w')) := by
 rw [h2]; exact split_calls Tryz.strings_Split s (sep.headD 0) w h1 hm_

theorem c_strings_Cut (s : Str) (sep : Str) (w : World)  (h1 : s.length ≤ 2097152) (h2 : sep = [sep.headD 0]) (hm_ : ∃ m, w.cell? ⟨0, 0, none⟩ = some (.int .i64 m)) : Calls Tryz.prog 30 [S s, S sep].toArray w (RetP w (.tuple #[S (cutC (sep.headD 0) s).1, S (cutC (sep.headD 0) s).2.1, Bo (cutC (sep.headD 0) s).2.2])) := by
 rw [h2]; exact cut_calls Tryz.strings_Cut s (sep.headD 0) w h1 hm_

theorem c_strconv_Itoa (n : Int) (w : World) (h_n : Ph.ok w n) (ht_ : Tab10 Tryz.prog w) : Calls Tryz.prog 63 [I n].toArray w (RetP w (S (Lib.itoa n))) := by
 exact itoa_calls Tryz.strconv_Itoa n w h_n ht_

theorem c_impl_FormatInt (n : Int) (w : World) (h_n : Ph.ok w n) (ht_ : Tab10 Tryz.prog w) : Calls Tryz.prog 40 [I n].toArray w (RetP w (S (Lib.itoa n))) := by
 refine enterN 5 Tryz.func40 rfl rfl rfl ?_
 have hs := Sat.start w
 refine WC.seq ?_
 refine Qa ?_
 refine WL.next ?_
 refine WC.seq ?_
 refine Qm ?_
 refine WL.callp hs Q0 (Yc.func Q0 fn63) (c_strconv_Itoa _ _ (Ph.old h_n hs) (by first | assumption | exact Sat.tab hs (by assumption))) ?_
 clear hs; intro w hs
 refine Qa ?_
 refine WL.next ?_
 refine WC.ret ?_
 refine fin1' rfl Q0 ?_
 refine RetP.mk hs ?_
 rfl

theorem c_strconv_Atoi (s : Str) (w : World)  (h1 : s.length ≤ 2097152) (he_ : ErrCells 1 2 w) : Calls Tryz.prog 61 [S s].toArray w (Ret w (fun v w' => AtoiR s v)) := by
 exact atoi_calls Tryz.strconv_Atoi_ok Tryz.strconv_Atoi_syntax Tryz.strconv_Atoi_range s w h1 he_

theorem c_impl_ParseInt (s : Str) (w : World) (h_s : Ph.ok w s) (hb : s.length ≤ 2097152) (ht_ : Tab10 Tryz.prog w) (he_ : ErrCells 1 2 w) : Calls Tryz.prog 31 [S s].toArray w (RetP w (.tuple #[I (parseI s), Bo (isInt s)])) := by
 refine enterN 28 Tryz.func31 rfl rfl rfl ?_
 have hs := Sat.start w
 refine WC.seq ?_
 refine Qa ?_
 refine Qa ?_
 refine WL.next ?_
 refine WC.seq ?_
 refine Qm ?_
 refine WL.call hs Q0 (Yc.func Q0 fn61) (c_strconv_Atoi _ _ (by first | assumption | omega | (simp only [lsz] at *; omega) | (simp only [lsz, strsz, TPolicy.size, TCache.size, TAddr.size, TRequest.size, TEntry.size, TResponse.size, TLine.size] at *; omega) | (simp only [lsz_map, TPage.size, TBuilder.size, TNode.size, TToken.size, TTokenizer.size, TServer.size, TFile.size, TNet.size, TCache.size, TSheet.size, strsz] at *; omega) | (simp only [lsz_map, TPage.size, TBuilder.size, TNode.size, TToken.size, TTokenizer.size, TServer.size, TFile.size, TNet.size, TCache.size, TSheet.size, strsz, lsz] at *; omega)) (by first | assumption | exact Sat.errs hs (by assumption))) ?_
 clear hs; intro v w hb hR hs
 obtain ⟨n9, ev9, rfl, hn9, he1, he2, he3⟩ := hR
 refine Qm ?_
 refine WL.p Q0 (Yl.extract Q0 Q0) ?_
 refine WL.p Q0 (Yl.extract Q0 Q0) ?_
 refine Qa ?_
 refine Qa ?_
 refine WL.next ?_
 refine WC.seq' ?_
 refine WC.seq ?_
 refine Qm ?_
 refine WL.p Q0 (Yl.neNil ifu96 Q0 he1) ?_
 refine Qm ?_
 refine WL.split (d := 13) Q0 (fun h1 => ?_) (fun h1 => ?_)
 ·
  refine WL.skip (d := 13) Q0 Q0 Q0 Q0 ?_
  refine WL.skip (d := 13) Q0 Q0 Q0 Q0 ?_
  refine WL.p Q0 (Yl.pickT Q0 Q0) ?_
  refine Qm ?_
  refine WL.skip (d := 17) Q0 Q0 Q0 Q0 ?_
  refine WL.skip (d := 17) Q0 Q0 Q0 Q0 ?_
  refine WL.p Q0 (Yl.pickT Q0 Q0) ?_
  refine Qm ?_
  refine WL.skip (d := 21) Q0 Q0 Q0 Q0 ?_
  refine WL.skip (d := 21) Q0 Q0 Q0 Q0 ?_
  refine WL.skip (d := 21) Q0 Q0 Q0 Q0 ?_
  refine WL.skip (d := 21) Q0 Q0 Q0 Q0 ?_
  refine WL.p Q0 (Yl.pickT Q0 Q0) ?_
  refine WL.next ?_
  refine WC.condT Q0 ?_
  refine WC.seq ?_
  refine Qa ?_
  refine Qa ?_
  refine WL.next ?_
  refine WC.ret ?_
  refine At.thenret ?_
  refine fin2' rfl Q0 Q0 ?_
  refine RetP.mk hs ?_
  first
   | exact parse_no (parse_err (by assumption) he3)
   | (have e9 := he2 (by assumption)
      exact parse_no (parse_val e9 (by rintro ⟨a1, a2, a3⟩; first | omega | contradiction)))
   | (have e8 := itoa_isInt (s := s) (n := n9) Q7 Q7 (by assumption)
      rw [← e8.2]; exact parse_yes e8.1)
 ·
  refine WL.run (d := 13) Q0 Q0 ?_
  refine Qm ?_
  refine WL.run (d := 13) Q0 Q0 ?_
  refine WL.p Q0 (Yl.lss Q0 Q0) ?_
  refine WL.p Q0 (Yl.pickF Q0 Q0) ?_
  refine Qm ?_
  refine WL.split (d := 17) Q0 (fun h2 => ?_) (fun h2 => ?_)
  ·
   replace h2 := of_decide_eq_true h2
   refine WL.skip (d := 17) Q0 Q0 Q0 Q0 ?_
   refine WL.skip (d := 17) Q0 Q0 Q0 Q0 ?_
   refine WL.p Q0 (Yl.pickT Q0 Q0) ?_
   refine Qm ?_
   refine WL.skip (d := 21) Q0 Q0 Q0 Q0 ?_
   refine WL.skip (d := 21) Q0 Q0 Q0 Q0 ?_
   refine WL.skip (d := 21) Q0 Q0 Q0 Q0 ?_
   refine WL.skip (d := 21) Q0 Q0 Q0 Q0 ?_
   refine WL.p Q0 (Yl.pickT Q0 Q0) ?_
   refine WL.next ?_
   refine WC.condT Q0 ?_
   refine WC.seq ?_
   refine Qa ?_
   refine Qa ?_
   refine WL.next ?_
   refine WC.ret ?_
   refine At.thenret ?_
   refine fin2' rfl Q0 Q0 ?_
   refine RetP.mk hs ?_
   first
    | exact parse_no (parse_err (by assumption) he3)
    | (have e9 := he2 (by assumption)
       exact parse_no (parse_val e9 (by rintro ⟨a1, a2, a3⟩; first | omega | contradiction)))
    | (have e8 := itoa_isInt (s := s) (n := n9) Q7 Q7 (by assumption)
       rw [← e8.2]; exact parse_yes e8.1)
  ·
   replace h2 := of_decide_eq_false h2
   refine WL.run (d := 17) Q0 Q0 ?_
   refine Qm ?_
   refine WL.run (d := 17) Q0 Q0 ?_
   refine WL.p Q0 (Yl.gtr Q0 Q0) ?_
   refine WL.p Q0 (Yl.pickF Q0 Q0) ?_
   refine Qm ?_
   refine WL.split (d := 21) Q0 (fun h3 => ?_) (fun h3 => ?_)
   ·
    replace h3 := of_decide_eq_true h3
    refine WL.skip (d := 21) Q0 Q0 Q0 Q0 ?_
    refine WL.skip (d := 21) Q0 Q0 Q0 Q0 ?_
    refine WL.skip (d := 21) Q0 Q0 Q0 Q0 ?_
    refine WL.skip (d := 21) Q0 Q0 Q0 Q0 ?_
    refine WL.p Q0 (Yl.pickT Q0 Q0) ?_
    refine WL.next ?_
    refine WC.condT Q0 ?_
    refine WC.seq ?_
    refine Qa ?_
    refine Qa ?_
    refine WL.next ?_
    refine WC.ret ?_
    refine At.thenret ?_
    refine fin2' rfl Q0 Q0 ?_
    refine RetP.mk hs ?_
    first
     | exact parse_no (parse_err (by assumption) he3)
     | (have e9 := he2 (by assumption)
        exact parse_no (parse_val e9 (by rintro ⟨a1, a2, a3⟩; first | omega | contradiction)))
     | (have e8 := itoa_isInt (s := s) (n := n9) Q7 Q7 (by assumption)
        rw [← e8.2]; exact parse_yes e8.1)
   ·
    replace h3 := of_decide_eq_false h3
    refine WL.run (d := 21) Q0 Q0 ?_
    refine Qm ?_
    refine WL.run (d := 21) Q0 Q0 ?_
    refine WL.callp hs Q0 (Yc.func Q0 fn40) (c_impl_FormatInt _ _ hn9 (by first | assumption | exact Sat.tab hs (by assumption))) ?_
    clear hs; intro w hs
    refine WL.run (d := 21) Q0 Q0 ?_
    refine Qm ?_
    refine WL.run (d := 21) Q0 Q0 ?_
    refine WL.p Q0 (Yl.nes Q0 Q0) ?_
    refine WL.p Q0 (Yl.pickF Q0 Q0) ?_
    refine WL.next ?_
    refine WC.condS Q0 (fun h4 => ?_) (fun h4 => ?_)
    ·
     replace h4 := not_eq_true h4
     replace h4 := of_decide_eq_false h4
     refine WC.seq ?_
     refine Qa ?_
     refine Qa ?_
     refine WL.next ?_
     refine WC.ret ?_
     refine At.thenret ?_
     refine fin2' rfl Q0 Q0 ?_
     refine RetP.mk hs ?_
     first
      | exact parse_no (parse_err (by assumption) he3)
      | (have e9 := he2 (by assumption)
         exact parse_no (parse_val e9 (by rintro ⟨a1, a2, a3⟩; first | omega | contradiction)))
      | (have e8 := itoa_isInt (s := s) (n := n9) Q7 Q7 (by assumption)
         rw [← e8.2]; exact parse_yes e8.1)
    ·
     replace h4 := not_eq_false h4
     replace h4 := of_decide_eq_true h4
     refine WC.skipn ?_
     refine WC.seq ?_
     refine Qm ?_
     refine Qa ?_
     refine Qa ?_
     refine WL.next ?_
     refine WC.ret ?_
     refine fin2' rfl Q0 Q0 ?_
     refine RetP.mk hs ?_
     first
      | exact parse_no (parse_err (by assumption) he3)
      | (have e9 := he2 (by assumption)
         exact parse_no (parse_val e9 (by rintro ⟨a1, a2, a3⟩; first | omega | contradiction)))
      | (have e8 := itoa_isInt (s := s) (n := n9) Q7 Q7 (by assumption)
         rw [← e8.2]; exact parse_yes e8.1)

theorem c_impl_InRange (n : Int) (low : Int) (high : Int) (w : World)   : Calls Tryz.prog 33 [I n, I low, I high].toArray w (RetP w (Bo (inR n low high))) := by
 refine enterN 15 Tryz.func33 rfl rfl rfl ?_
 have hs := Sat.start w
 refine WC.seq ?_
 refine Qa ?_
 refine WL.next ?_
 refine WC.seq ?_
 refine Qm ?_
 refine Qm ?_
 refine WL.p Q0 (Yl.leq Q0 Q0) ?_
 refine Qm ?_
 refine WL.split (d := 10) Q0 (fun h1 => ?_) (fun h1 => ?_)
 ·
  replace h1 := of_decide_eq_true h1
  refine WL.run (d := 10) Q0 Q0 ?_
  refine Qm ?_
  refine WL.run (d := 10) Q0 Q0 ?_
  refine Qm ?_
  refine WL.run (d := 10) Q0 Q0 ?_
  refine WL.p Q0 (Yl.leq Q0 Q0) ?_
  refine WL.p Q0 (Yl.pickT Q0 Q0) ?_
  refine Qa ?_
  refine WL.next ?_
  refine WC.ret ?_
  refine fin1' rfl Q0 ?_
  refine RetP.mk hs ?_
  simp [inR, h1]
 ·
  replace h1 := of_decide_eq_false h1
  refine WL.skip (d := 10) Q0 Q0 Q0 Q0 ?_
  refine WL.skip (d := 10) Q0 Q0 Q0 Q0 ?_
  refine WL.skip (d := 10) Q0 Q0 Q0 Q0 ?_
  refine WL.p Q0 (Yl.pickF Q0 Q0) ?_
  refine Qa ?_
  refine WL.next ?_
  refine WC.ret ?_
  refine fin1' rfl Q0 ?_
  refine RetP.mk hs ?_
  rw [inR_false.2 Q7]

theorem c_impl_IsName (s : Str) (w : World) (h_s : Ph.ok w s)  : Calls Tryz.prog 32 [S s].toArray w (RetP w (Bo (isName s))) := by
 have hw : s.length ≤ 9223372036854775807 := h_s
 refine enterN 23 Tryz.func32 rfl rfl rfl ?_
 have hs := Sat.start w
 refine WC.seq ?_
 refine Qa ?_
 refine WL.next ?_
 refine WC.seq' ?_
 refine WC.seq ?_
 refine Qa ?_
 refine WL.next ?_
 refine WC.block ?_
 refine WC.loopC (ι := Nat) (fun k => s.length - k) (fun k => [(3, I (k : Int))]) (fun _ => []) (fun k => s.all lower = (s.drop k).all lower) [(0, _)] 0 (hs) ⟨by rfl, trivial⟩ ⟨by rfl, trivial⟩ ?_ ?_
 ·
  simp
 clear hs; rintro k w hJ hs
 simp only [List.nil_append] at hs
 refine WC.seq' ?_
 refine WC.seq ?_
 refine Qm ?_
 refine Qm ?_
 refine WL.p Q0 (Yl.len_str str9 Q0) ?_
 refine WL.p Q0 (Yl.lss Q0 Q0) ?_
 refine WL.next ?_
 refine WC.condS Q0 (fun h1 => ?_) (fun h1 => ?_)
 ·
  replace h1 := of_decide_eq_true h1
  obtain ⟨d, hd⟩ := exists_get (l := s) (k := k) Q7
  rw [drop_cons hd] at hJ
  refine WC.skipn ?_
  refine WC.seq' ?_
  refine WC.block ?_
  refine WC.seq ?_
  refine Qm ?_
  refine Qm ?_
  refine WL.p Q0 (Yl.index str9 Q0 Q0 Q0 (by first | assumption | exact List.getElem?_eq_getElem Q7)) ?_
  refine WL.p Q0 (Yl.lss Q0 Q0) ?_
  refine Qm ?_
  refine WL.split (d := 14) Q0 (fun h2 => ?_) (fun h2 => ?_)
  ·
   replace h2 := of_decide_eq_true h2
   refine WL.skip (d := 14) Q0 Q0 Q0 Q0 ?_
   refine WL.skip (d := 14) Q0 Q0 Q0 Q0 ?_
   refine WL.skip (d := 14) Q0 Q0 Q0 Q0 ?_
   refine WL.skip (d := 14) Q0 Q0 Q0 Q0 ?_
   refine WL.p Q0 (Yl.pickT Q0 Q0) ?_
   refine WL.next ?_
   refine WC.condT Q0 ?_
   refine WC.seq ?_
   refine Qa ?_
   refine WL.next ?_
   refine WC.ret ?_
   refine At.blockret ?_
   refine At.thenret ?_
   refine At.thenret ?_
   refine At.blockret ?_
   refine At.thenret ?_
   refine fin1' rfl Q0 ?_
   refine RetP.mk hs ?_
   first
    | (simp [isName, hJ, lower]; done)
    | (simp [isName, hJ, lower]; omega)
    | simp_all [isName, hJ, lower]
  ·
   replace h2 := of_decide_eq_false h2
   refine WL.run (d := 14) Q0 Q0 ?_
   refine Qm ?_
   refine WL.run (d := 14) Q0 Q0 ?_
   refine Qm ?_
   refine WL.run (d := 14) Q0 Q0 ?_
   refine WL.p Q0 (Yl.index str9 Q0 Q0 Q0 (by first | assumption | exact List.getElem?_eq_getElem Q7)) ?_
   refine WL.run (d := 14) Q0 Q0 ?_
   refine WL.p Q0 (Yl.gtr Q0 Q0) ?_
   refine WL.p Q0 (Yl.pickF Q0 Q0) ?_
   refine WL.next ?_
   refine WC.condS Q0 (fun h3 => ?_) (fun h3 => ?_)
   ·
    replace h3 := of_decide_eq_true h3
    refine WC.seq ?_
    refine Qa ?_
    refine WL.next ?_
    refine WC.ret ?_
    refine At.blockret ?_
    refine At.thenret ?_
    refine At.thenret ?_
    refine At.blockret ?_
    refine At.thenret ?_
    refine fin1' rfl Q0 ?_
    refine RetP.mk hs ?_
    first
     | (simp [isName, hJ, lower]; done)
     | (simp [isName, hJ, lower]; omega)
     | simp_all [isName, hJ, lower]
   ·
    replace h3 := of_decide_eq_false h3
    refine WC.skip ?_
    refine At.blocknormal ?_
    refine At.then_ ?_
    refine WC.region ?_
    refine Qm ?_
    refine WL.p Q0 (Yl.add Q0 Q0 Q7) ?_
    refine Qa ?_
    refine WL.nil ?_
    refine At.roundC (k + 1) (hs.only Q2) ⟨by rfl, trivial⟩ ⟨by rfl, trivial⟩ ?_ ?_
    ·
     omega
    ·
     rw [hJ]; simp [lower]; omega
 ·
  replace h1 := of_decide_eq_false h1
  rw [drop_out (l := s) Q7] at hJ
  refine WC.exit ?_
  refine At.thenexit ?_
  refine At.thenexit ?_
  refine At.blockexit ?_
  refine At.then_ ?_
  refine WC.seq ?_
  refine Qm ?_
  refine WL.p Q0 (Yl.len_str str9 Q0) ?_
  refine WL.callp hs Q0 (Yc.func Q0 fn33) (c_impl_InRange _ _ _ _) ?_
  clear hs; intro w hs
  refine Qa ?_
  refine WL.next ?_
  refine WC.ret ?_
  refine fin1' rfl Q0 ?_
  refine RetP.mk hs ?_
  first
   | (simp [isName, hJ, lower]; done)
   | (simp [isName, hJ, lower]; omega)
   | simp_all [isName, hJ, lower]

theorem c_impl_ParseSheet (s : Str) (w : World) (h_s : Ph.ok w s) (hb : s.length ≤ 2097152) (hm_ : ∃ m, w.cell? ⟨0, 0, none⟩ = some (.int .i64 m)) (ht_ : Tab10 Tryz.prog w) (he_ : ErrCells 1 2 w) : Calls Tryz.prog 7 [S s].toArray w (Ret w (fun v w' => ∃ x : PSheet, v = .agg (Ph.enc x).toArray ∧ x.lg = ⟨sheetTo (splitC 59 s)⟩ ∧ Fresh w x w')) := by
 refine enterN 55 Tryz.func7 rfl rfl rfl ?_
 have hs := Sat.start w
 refine WC.seq ?_
 refine WL.r Q0 (Yr.alloc hs zt27) ?_
 clear hs; rintro _ w ⟨b1, rfl, hb, hs⟩; clear hb
 refine WL.next ?_
 refine WC.seq ?_
 refine WL.p Q0 (Yl.build bt27 Q0 Q4) ?_
 refine WL.r Q0 (Yr.alloc hs zt27) ?_
 clear hs; rintro _ w ⟨b2, rfl, hb, hs⟩; clear hb
 refine WL.s (Yr.storeB hs Q0 Q0 Q0 Q5 Q3 Q0 (by exact szf27)) ?_
 clear hs; rintro _ w hs
 refine WL.next ?_
 refine WC.seq' ?_
 refine WC.seq ?_
 refine Qm ?_
 refine WL.call hs Q0 (Yc.func Q0 fn29) (c_strings_Split _ _ _ (by first | assumption | omega | (simp only [lsz] at *; omega) | (simp only [lsz, strsz, TPolicy.size, TCache.size, TAddr.size, TRequest.size, TEntry.size, TResponse.size, TLine.size] at *; omega) | (simp only [lsz_map, TPage.size, TBuilder.size, TNode.size, TToken.size, TTokenizer.size, TServer.size, TFile.size, TNet.size, TCache.size, TSheet.size, strsz] at *; omega) | (simp only [lsz_map, TPage.size, TBuilder.size, TNode.size, TToken.size, TTokenizer.size, TServer.size, TFile.size, TNet.size, TCache.size, TSheet.size, strsz, lsz] at *; omega)) Q0 (by first | assumption | exact Sat.cellm hs (by assumption))) ?_
 have hs0 := hs; clear hs; intro v w hb hR hs; clear hs
 obtain ⟨x3, rfl, hx3, hf3⟩ := hR
 obtain ⟨F3, hs⟩ := hf3.sat hs0 hb; clear hs0 hf3
 have hle3 := Sl.Ok.le (hs.okow (x := x3) (F := F3) Q1)
 refine WL.p Q0 (Yl.len_sl slu48 Q0) ?_
 refine Qm ?_
 refine WL.next ?_
 refine WC.block ?_
 replace hx3 : x3.l = splitC 59 s := hx3
 replace hs := Sat.nilsl (α := TRule) hs
 refine WC.loopC (ι := Nat × Sl TRule × List Nat) (fun ⟨k, q, F⟩ => x3.l.length - k) (fun ⟨k, q, F⟩ => [(15, I (k : Int))]) (fun ⟨k, q, F⟩ => [box b2 27 [Sl.v q], ow q F, ow x3 F3]) (fun ⟨k, q, F⟩ => k ≤ x3.l.length ∧ q.l = sheetTo (x3.l.take k)) [(0, _), (2, _), (3, _), (13, _), (14, _)] (0, ⟨[], none, 0⟩, []) (hs.sel (D := [box b2 27 _, ow (⟨[], none, 0⟩ : Sl TRule) [], ow x3 F3]) Q2) ⟨by rfl, by rfl, by rfl, by rfl, by rfl, trivial⟩ ⟨by rfl, trivial⟩ ?_ ?_
 ·
  exact ⟨Nat.zero_le _, rfl⟩
 clear hs; rintro ⟨k, q, F⟩ w ⟨hJ1, hJ2⟩ hs
 simp only [List.cons_append, List.nil_append] at hs
 have hxl : x3.l.length ≤ s.length + 1 := by rw [hx3]; exact splitC_len _ _
 refine WC.seq ?_
 refine WL.p Q0 (Yl.lss Q0 Q0) ?_
 refine WL.next ?_
 refine WC.seq' ?_
 refine WC.condS Q0 (fun h1 => ?_) (fun h1 => ?_)
 ·
  replace h1 := of_decide_eq_true h1
  obtain ⟨d, hd⟩ := exists_get (l := x3.l) (k := k) Q7
  have hdl : d.length ≤ s.length := splitC_mem_le (b := 59) (by rw [← hx3]; exact List.mem_of_getElem? hd)
  have hql : q.l.length ≤ 8 := by rw [hJ2]; exact sheetTo_len _
  refine WC.skipn ?_
  refine WC.seq' ?_
  refine WC.block ?_
  refine WC.seq ?_
  refine WL.p Q0 (Yl.indexAddr slt48 Q0 Q0 (hs.okow (x := x3) (F := F3) Q1) Q0 (hd)) ?_
  refine WL.p Q0 (Yl.loadC0 sca9 Q0 (Sl.Ok.at_ (hs.okow (x := x3) (F := F3) Q1) (by assumption)).2 Q0) ?_
  refine Qa ?_
  refine WL.next ?_
  refine WC.seq ?_
  refine Qm ?_
  refine WL.callp hs Q0 (Yc.func Q0 fn30) (c_strings_Cut _ _ _ Q7 Q0 (by first | assumption | exact Sat.cellm hs (by assumption))) ?_
  clear hs; intro w hs
  refine Qm ?_
  refine WL.p Q0 (Yl.extract Q0 Q0) ?_
  refine WL.p Q0 (Yl.extract Q0 Q0) ?_
  refine WL.p Q0 (Yl.extract Q0 Q0) ?_
  refine Qa ?_
  refine Qa ?_
  refine Qa ?_
  refine WL.next ?_
  refine WC.seq ?_
  refine Qm ?_
  refine WL.callp hs Q0 (Yc.func Q0 fn31) (c_impl_ParseInt _ _ (show WfS (cutC 58 d).2.1 from Nat.le_trans (cutC_len 58 d).2 Q7) (by exact Nat.le_trans (cutC_len 58 d).2 Q7) (by first | assumption | exact Sat.tab hs (by assumption)) (by first | assumption | exact Sat.errs hs (by assumption))) ?_
  clear hs; intro w hs
  refine Qm ?_
  refine WL.p Q0 (Yl.extract Q0 Q0) ?_
  refine WL.p Q0 (Yl.extract Q0 Q0) ?_
  refine Qa ?_
  refine Qa ?_
  refine WL.next ?_
  refine WC.seq ?_
  refine Qm ?_
  refine Qm ?_
  refine WL.split (d := 31) Q0 (fun h2 => ?_) (fun h2 => ?_)
  ·
   refine WL.run (d := 31) Q0 Q0 ?_
   refine Qm ?_
   refine WL.run (d := 31) Q0 Q0 ?_
   refine WL.callp hs Q0 (Yc.func Q0 fn32) (c_impl_IsName _ _ (show WfS (cutC 58 d).1 from Nat.le_trans (cutC_len 58 d).1 Q7)) ?_
   clear hs; intro w hs
   refine WL.p Q0 (Yl.pickT Q0 Q0) ?_
   refine Qm ?_
   refine WL.split (d := 35) Q0 (fun h3 => ?_) (fun h3 => ?_)
   ·
    refine WL.run (d := 35) Q0 Q0 ?_
    refine Qm ?_
    refine WL.run (d := 35) Q0 Q0 ?_
    refine WL.callp hs Q0 (Yc.func Q0 fn33) (c_impl_InRange _ _ _ _) ?_
    clear hs; intro w hs
    refine WL.p Q0 (Yl.pickT Q0 Q0) ?_
    refine Qm ?_
    refine WL.split (d := 39) Q0 (fun h4 => ?_) (fun h4 => ?_)
    ·
     replace h4 := inR_true.1 h4
     refine WL.run (d := 39) Q0 Q0 ?_
     refine WL.p Q0 (Yl.fieldAddr fa27_0 Q0) ?_
     refine WL.run (d := 39) Q0 Q0 ?_
     refine WL.p Q0 (Yl.loadB sca25 Q0 hs Q1 Q0) ?_
     refine WL.run (d := 39) Q0 Q0 ?_
     refine WL.p Q0 (Yl.len_sl slu25 Q0) ?_
     refine WL.run (d := 39) Q0 Q0 ?_
     refine WL.p Q0 (Yl.lss Q0 Q0) ?_
     refine WL.p Q0 (Yl.pickT Q0 Q0) ?_
     refine WL.next ?_
     refine WC.condS Q0 (fun h5 => ?_) (fun h5 => ?_)
     ·
      replace h5 := of_decide_eq_true h5
      refine WC.region ?_
      refine WL.p Q0 (Yl.fieldAddr fa27_0 Q0) ?_
      refine WL.p Q0 (Yl.loadB sca25 Q0 hs Q1 Q0) ?_
      refine Qm ?_
      refine Qm ?_
      refine WL.p Q0 (Yl.build bt36 Q0 Q4) ?_
      refine WL.r Q0 (Yr.buildSlice hs sll25 Q0 Q0 Q0 Q4 Q0) ?_
      clear hs; rintro _ w ⟨b4, rfl, hb, hs⟩; clear hb
      refine WL.r Q0 (Yr.append (s := q) (F := F) hs elt25 Q2 Q0 Q0 rfl (xs := [⟨(cutC 58 d).1, parseI (cutC 58 d).2.1⟩]) (hs.box_cells Q1) (by intro x hx; obtain rfl := List.mem_singleton.1 hx; exact ⟨(show WfS (cutC 58 d).1 from Nat.le_trans (cutC_len 58 d).1 Q7), parseI_wf _⟩) (by simp; unfold maxLen; omega) (by simp; omega)) ?_
      clear hs; rintro _ w ⟨s5, F5, rfl, hl5, hs⟩
      refine WL.p Q0 (Yl.fieldAddr fa27_0 Q0) ?_
      refine WL.s (Yr.storeB hs Q0 Q0 Q0 Q5 Q3 Q0 (by exact szf25)) ?_
      clear hs; rintro _ w hs
      refine WL.nil ?_
      refine At.blocknormal ?_
      refine At.then_ ?_
      refine WC.region ?_
      refine WL.p Q0 (Yl.add Q0 Q0 Q7) ?_
      refine Qm ?_
      refine WL.nil ?_
      refine At.roundC (k + 1, s5, F5) (hs.only Q2) ⟨by rfl, by rfl, by rfl, by rfl, by rfl, trivial⟩ ⟨by rfl, trivial⟩ ?_ ?_
      ·
       show x3.l.length - (k + 1) < x3.l.length - k
       omega
      ·
       refine ⟨by omega, ?_⟩
       rw [hl5]
       show q.l ++ _ = sheetTo (x3.l.take (k + 1))
       rw [sheetTo_more hd (by rw [← hJ2]; omega) (ruleOf_yes (by assumption) (by assumption) (inR_true.2 (by assumption))), ← hJ2]
     ·
      replace h5 := of_decide_eq_false h5
      refine WC.skip ?_
      refine At.blocknormal ?_
      refine At.then_ ?_
      refine WC.region ?_
      refine WL.p Q0 (Yl.add Q0 Q0 Q7) ?_
      refine Qm ?_
      refine WL.nil ?_
      refine At.roundC (k + 1, q, F) (hs.only Q2) ⟨by rfl, by rfl, by rfl, by rfl, by rfl, trivial⟩ ⟨by rfl, trivial⟩ ?_ ?_
      ·
       show x3.l.length - (k + 1) < x3.l.length - k
       omega
      ·
       refine ⟨by omega, ?_⟩
       show q.l = sheetTo (x3.l.take (k + 1))
       rw [sheetTo_stop (by rw [← hJ2]; omega), ← hJ2]
    ·
     replace h4 := inR_false.1 h4
     refine WL.skip (d := 39) Q0 Q0 Q0 Q0 ?_
     refine WL.skip (d := 39) Q0 Q0 Q0 Q0 ?_
     refine WL.skip (d := 39) Q0 Q0 Q0 Q0 ?_
     refine WL.skip (d := 39) Q0 Q0 Q0 Q0 ?_
     refine WL.p Q0 (Yl.pickF Q0 Q0) ?_
     refine WL.next ?_
     refine WC.condF Q0 ?_
     refine WC.skip ?_
     refine At.blocknormal ?_
     refine At.then_ ?_
     refine WC.region ?_
     refine WL.p Q0 (Yl.add Q0 Q0 Q7) ?_
     refine Qm ?_
     refine WL.nil ?_
     refine At.roundC (k + 1, q, F) (hs.only Q2) ⟨by rfl, by rfl, by rfl, by rfl, by rfl, trivial⟩ ⟨by rfl, trivial⟩ ?_ ?_
     ·
      show x3.l.length - (k + 1) < x3.l.length - k
      omega
     ·
      refine ⟨by omega, ?_⟩
      show q.l = sheetTo (x3.l.take (k + 1))
      rw [sheetTo_none hd (ruleOf_no (by rintro ⟨a1, a2, a3⟩; have a4 := inR_true.1 a3; first | contradiction | omega | (simp_all; done) | (simp_all; omega))), ← hJ2]
   ·
    refine WL.skip (d := 35) Q0 Q0 Q0 Q0 ?_
    refine WL.skip (d := 35) Q0 Q0 Q0 Q0 ?_
    refine WL.p Q0 (Yl.pickF Q0 Q0) ?_
    refine Qm ?_
    refine WL.skip (d := 39) Q0 Q0 Q0 Q0 ?_
    refine WL.skip (d := 39) Q0 Q0 Q0 Q0 ?_
    refine WL.skip (d := 39) Q0 Q0 Q0 Q0 ?_
    refine WL.skip (d := 39) Q0 Q0 Q0 Q0 ?_
    refine WL.p Q0 (Yl.pickF Q0 Q0) ?_
    refine WL.next ?_
    refine WC.condF Q0 ?_
    refine WC.skip ?_
    refine At.blocknormal ?_
    refine At.then_ ?_
    refine WC.region ?_
    refine WL.p Q0 (Yl.add Q0 Q0 Q7) ?_
    refine Qm ?_
    refine WL.nil ?_
    refine At.roundC (k + 1, q, F) (hs.only Q2) ⟨by rfl, by rfl, by rfl, by rfl, by rfl, trivial⟩ ⟨by rfl, trivial⟩ ?_ ?_
    ·
     show x3.l.length - (k + 1) < x3.l.length - k
     omega
    ·
     refine ⟨by omega, ?_⟩
     show q.l = sheetTo (x3.l.take (k + 1))
     rw [sheetTo_none hd (ruleOf_no (by rintro ⟨a1, a2, a3⟩; have a4 := inR_true.1 a3; first | contradiction | omega | (simp_all; done) | (simp_all; omega))), ← hJ2]
  ·
   refine WL.skip (d := 31) Q0 Q0 Q0 Q0 ?_
   refine WL.skip (d := 31) Q0 Q0 Q0 Q0 ?_
   refine WL.p Q0 (Yl.pickF Q0 Q0) ?_
   refine Qm ?_
   refine WL.skip (d := 35) Q0 Q0 Q0 Q0 ?_
   refine WL.skip (d := 35) Q0 Q0 Q0 Q0 ?_
   refine WL.p Q0 (Yl.pickF Q0 Q0) ?_
   refine Qm ?_
   refine WL.skip (d := 39) Q0 Q0 Q0 Q0 ?_
   refine WL.skip (d := 39) Q0 Q0 Q0 Q0 ?_
   refine WL.skip (d := 39) Q0 Q0 Q0 Q0 ?_
   refine WL.skip (d := 39) Q0 Q0 Q0 Q0 ?_
   refine WL.p Q0 (Yl.pickF Q0 Q0) ?_
   refine WL.next ?_
   refine WC.condF Q0 ?_
   refine WC.skip ?_
   refine At.blocknormal ?_
   refine At.then_ ?_
   refine WC.region ?_
   refine WL.p Q0 (Yl.add Q0 Q0 Q7) ?_
   refine Qm ?_
   refine WL.nil ?_
   refine At.roundC (k + 1, q, F) (hs.only Q2) ⟨by rfl, by rfl, by rfl, by rfl, by rfl, trivial⟩ ⟨by rfl, trivial⟩ ?_ ?_
   ·
    show x3.l.length - (k + 1) < x3.l.length - k
    omega
   ·
    refine ⟨by omega, ?_⟩
    show q.l = sheetTo (x3.l.take (k + 1))
    rw [sheetTo_none hd (ruleOf_no (by rintro ⟨a1, a2, a3⟩; have a4 := inR_true.1 a3; first | contradiction | omega | (simp_all; done) | (simp_all; omega))), ← hJ2]
 ·
  replace h1 := of_decide_eq_false h1
  refine WC.exit ?_
  refine At.thenexit ?_
  refine At.thenexit ?_
  refine At.blockexit ?_
  refine At.then_ ?_
  refine WC.seq ?_
  refine WL.p Q0 (Yl.loadAB agg27 Q0 hs Q1 Q0 Q0) ?_
  refine WL.s (Yr.storeB hs Q0 Q0 Q0 Q5 Q3 Q0 (by exact szf27)) ?_
  clear hs; rintro _ w hs
  refine WL.next ?_
  refine WC.ret ?_
  refine fin1c rfl agg27 Q0 hs Q1 Q0 ?_
  refine Ret.mk hs ?_
  refine ⟨⟨q⟩, rfl, ?_, ?_⟩
  · have e9 : sheetTo x3.l = q.l := by
      rw [hJ2, List.take_of_length_le Q7]
    simp_all [PSheet.lg]
  · exact (PSheet.join _ (hs.only (D := [ow q F]) Q2) ).fresh List.mem_cons_self

theorem c_slices_EqualFunc___impl_Sheet___impl_Sheet_impl_Sheet_impl_Sheet_ (s1 : (Sl PSheet)) (s2 : (Sl PSheet)) (eq : FuncId) (us_eq : List Value) (p_eq : PSheet → PSheet → Bool) (w : World) (h_s1 : Ph.ok w s1) (h_s2 : Ph.ok w s2)  (hfn_eq : FN Tryz.prog eq) (hf_eq : ∀ x ∈ s1.l, ∀ y ∈ s2.l, ∀ w', Below w.heap.size w w' → Calls Tryz.prog eq (([.agg (Ph.enc x).toArray, .agg (Ph.enc y).toArray] : List Value) ++ us_eq).toArray w' (RetP w' (Bo (p_eq x y)))) : Calls Tryz.prog 34 [Sl.v s1, Sl.v s2, .func (.func eq) #[] us_eq.toArray].toArray w (RetP w (Bo (eqWith p_eq s1.l s2.l))) := by
 have hw := h_s1.lt
 refine enterN 32 Tryz.func34 rfl rfl rfl ?_
 have hs := Sat.start w
 refine WC.seq ?_
 refine Qa ?_
 refine WL.next ?_
 refine WC.seq' ?_
 refine WC.seq ?_
 refine Qm ?_
 refine WL.p Q0 (Yl.len_sl slu30 Q0) ?_
 refine Qm ?_
 refine WL.p Q0 (Yl.len_sl slu30 Q0) ?_
 refine WL.p Q0 (Yl.nei Q0 Q0) ?_
 refine WL.next ?_
 refine WC.condS Q0 (fun h1 => ?_) (fun h1 => ?_)
 ·
  replace h1 := not_eq_true h1
  replace h1 := of_decide_eq_false h1
  refine WC.seq ?_
  refine Qa ?_
  refine WL.next ?_
  refine WC.ret ?_
  refine At.thenret ?_
  refine fin1' rfl Q0 ?_
  refine RetP.mk hs ?_
  rw [eqWith_len Q7]
 ·
  replace h1 := not_eq_false h1
  replace h1 := of_decide_eq_true h1
  refine WC.skipn ?_
  refine WC.seq' ?_
  refine WC.seq ?_
  refine Qm ?_
  refine WL.p Q0 (Yl.len_sl slu30 Q0) ?_
  refine Qm ?_
  refine WL.next ?_
  refine WC.block ?_
  refine WC.loopC (ι := Nat) (fun k => s1.l.length - k) (fun k => [(17, I (k : Int))]) (fun _ => []) (fun k => eqWith p_eq s1.l s2.l = eqWith p_eq (s1.l.drop k) (s2.l.drop k)) [(0, _), (1, _), (2, _), (14, _), (15, _), (16, _)] 0 (hs) ⟨by rfl, by rfl, by rfl, by rfl, by rfl, by rfl, trivial⟩ ⟨by rfl, trivial⟩ ?_ ?_
  ·
   simp
  clear hs; rintro k w hJ hs
  simp only [List.nil_append] at hs
  refine WC.seq ?_
  refine WL.p Q0 (Yl.lss Q0 Q0) ?_
  refine WL.next ?_
  refine WC.seq' ?_
  refine WC.condS Q0 (fun h2 => ?_) (fun h2 => ?_)
  ·
   replace h2 := of_decide_eq_true h2
   obtain ⟨d, hd⟩ := exists_get (l := s1.l) (k := k) Q7
   obtain ⟨d2, hd2⟩ := exists_get (l := s2.l) (k := k) Q7
   rw [drop_cons hd, drop_cons hd2] at hJ
   refine WC.skipn ?_
   refine WC.seq' ?_
   refine WC.block ?_
   refine WC.seq ?_
   refine Qm ?_
   refine WL.p Q0 (Yl.indexAddr slt30 Q0 Q0 (Ph.old h_s1 hs) Q0 (hd)) ?_
   refine WL.p Q0 (Yl.loadA agg27 Q0 (Sl.Ok.at_ (Ph.old h_s1 hs) (by assumption)).2 Q0) ?_
   refine WL.r Q0 (Yr.alloc hs zt27) ?_
   clear hs; rintro _ w ⟨b1, rfl, hb, hs⟩; clear hb
   refine Qa ?_
   refine WL.s (Yr.storeB hs Q0 Q0 Q0 Q5 Q3 Q0 (by exact szf27)) ?_
   clear hs; rintro _ w hs
   refine WL.next ?_
   refine WC.seq ?_
   refine Qm ?_
   refine Qm ?_
   refine WL.p Q0 (Yl.indexAddr slt30 Q0 Q0 (Ph.old h_s2 hs) Q0 (hd2)) ?_
   refine WL.p Q0 (Yl.loadA agg27 Q0 (Sl.Ok.at_ (Ph.old h_s2 hs) (by assumption)).2 Q0) ?_
   refine WL.r Q0 (Yr.alloc hs zt27) ?_
   clear hs; rintro _ w ⟨b2, rfl, hb, hs⟩; clear hb
   refine WL.s (Yr.storeB hs Q0 Q0 Q0 Q5 Q3 Q0 (by exact szf27)) ?_
   clear hs; rintro _ w hs
   refine WL.next ?_
   refine WC.seq ?_
   refine Qm ?_
   refine WL.p Q0 (Yl.loadAB agg27 Q0 hs Q1 Q0 Q0) ?_
   refine WL.p Q0 (Yl.loadAB agg27 Q0 hs Q1 Q0 Q0) ?_
   refine WL.callp hs Q0 (Yc.value Q0 Q0 hfn_eq Q0) (hf_eq _ (List.mem_of_getElem? (by assumption)) _ (List.mem_of_getElem? (by assumption)) _ hs.below) ?_
   clear hs; intro w hs
   refine WL.p Q0 (Yl.not Q0) ?_
   refine WL.next ?_
   refine WC.condS Q0 (fun h3 => ?_) (fun h3 => ?_)
   ·
    replace h3 := not_eq_true h3
    refine WC.seq ?_
    refine Qa ?_
    refine WL.next ?_
    refine WC.ret ?_
    refine At.blockret ?_
    refine At.thenret ?_
    refine At.thenret ?_
    refine At.blockret ?_
    refine At.thenret ?_
    refine fin1' rfl Q0 ?_
    refine RetP.mk hs ?_
    rw [hJ]; simp_all [eqWith]
   ·
    replace h3 := not_eq_false h3
    refine WC.skip ?_
    refine At.blocknormal ?_
    refine At.then_ ?_
    refine WC.region ?_
    refine WL.p Q0 (Yl.add Q0 Q0 Q7) ?_
    refine Qm ?_
    refine WL.nil ?_
    refine At.roundC (k + 1) (hs.only Q2) ⟨by rfl, by rfl, by rfl, by rfl, by rfl, by rfl, trivial⟩ ⟨by rfl, trivial⟩ ?_ ?_
    ·
     omega
    ·
     rw [hJ]; simp_all [eqWith]
  ·
   replace h2 := of_decide_eq_false h2
   rw [drop_out (l := s1.l) Q7, drop_out (l := s2.l) Q7] at hJ
   refine WC.exit ?_
   refine At.thenexit ?_
   refine At.thenexit ?_
   refine At.blockexit ?_
   refine At.then_ ?_
   refine WC.seq ?_
   refine Qa ?_
   refine WL.next ?_
   refine WC.ret ?_
   refine fin1' rfl Q0 ?_
   refine RetP.mk hs ?_
   rw [hJ]; simp_all [eqWith]

theorem c_slices_Equal___impl_Rule_impl_Rule_ (s1 : (Sl TRule)) (s2 : (Sl TRule)) (w : World) (h_s1 : Ph.ok w s1) (h_s2 : Ph.ok w s2)  : Calls Tryz.prog 62 [Sl.v s1, Sl.v s2].toArray w (RetP w (Bo (decide (s1.l = s2.l)))) := by
 have hw := h_s1.lt
 refine enterN 26 Tryz.func62 rfl rfl rfl ?_
 have hs := Sat.start w
 refine WC.seq ?_
 refine Qa ?_
 refine WL.next ?_
 refine WC.seq' ?_
 refine WC.seq ?_
 refine Qm ?_
 refine WL.p Q0 (Yl.len_sl slu25 Q0) ?_
 refine Qm ?_
 refine WL.p Q0 (Yl.len_sl slu25 Q0) ?_
 refine WL.p Q0 (Yl.nei Q0 Q0) ?_
 refine WL.next ?_
 refine WC.condS Q0 (fun h1 => ?_) (fun h1 => ?_)
 ·
  replace h1 := not_eq_true h1
  replace h1 := of_decide_eq_false h1
  refine WC.seq ?_
  refine Qa ?_
  refine WL.next ?_
  refine WC.ret ?_
  refine At.thenret ?_
  refine fin1' rfl Q0 ?_
  refine RetP.mk hs ?_
  have hne : ¬ s1.l = s2.l := by
   intro h
   have h2 := congrArg List.length h
   try simp at h2
   omega
  simp only [hne, decide_false]
 ·
  replace h1 := not_eq_false h1
  replace h1 := of_decide_eq_true h1
  refine WC.skipn ?_
  refine WC.seq' ?_
  refine WC.seq ?_
  refine Qm ?_
  refine WL.p Q0 (Yl.len_sl slu25 Q0) ?_
  refine Qm ?_
  refine WL.next ?_
  refine WC.block ?_
  refine WC.loopC (ι := Nat) (fun k => s1.l.length - k) (fun k => [(13, I (k : Int))]) (fun _ => []) (fun k => decide (s1.l = s2.l) = decide (s1.l.drop k = s2.l.drop k)) [(0, _), (1, _), (10, _), (12, _)] 0 (hs) ⟨by rfl, by rfl, by rfl, by rfl, trivial⟩ ⟨by rfl, trivial⟩ ?_ ?_
  ·
   simp
  clear hs; rintro k w hJ hs
  simp only [List.nil_append] at hs
  refine WC.seq ?_
  refine WL.p Q0 (Yl.lss Q0 Q0) ?_
  refine WL.next ?_
  refine WC.seq' ?_
  refine WC.condS Q0 (fun h2 => ?_) (fun h2 => ?_)
  ·
   replace h2 := of_decide_eq_true h2
   obtain ⟨d, hd⟩ := exists_get (l := s1.l) (k := k) Q7
   obtain ⟨d2, hd2⟩ := exists_get (l := s2.l) (k := k) Q7
   rw [drop_cons hd, drop_cons hd2] at hJ
   refine WC.skipn ?_
   refine WC.seq' ?_
   refine WC.block ?_
   refine WC.seq ?_
   refine Qm ?_
   refine Qa ?_
   refine WL.next ?_
   refine WC.quietn mixed Q6 hs ?_
   refine WQ.p Q0 (fun w hs => Yl.move Q0) ?_
   refine WQ.p Q0 (fun w hs => Yl.move Q0) ?_
   refine WQ.p Q0 (fun w hs => Yl.indexAddr slt25 Q0 Q0 (Ph.old h_s1 hs) Q0 (hd)) ?_
   refine WQ.p Q0 (fun w hs => Yl.loadA agg36 Q0 (Sl.Ok.at_ (Ph.old h_s1 hs) (by assumption)).2 Q0) ?_
   refine WQ.p Q0 (fun w hs => Yl.move Q0) ?_
   refine WQ.p Q0 (fun w hs => Yl.move Q0) ?_
   refine WQ.p Q0 (fun w hs => Yl.indexAddr slt25 Q0 Q0 (Ph.old h_s2 hs) Q0 (hd2)) ?_
   refine WQ.p Q0 (fun w hs => Yl.loadA agg36 Q0 (Sl.Ok.at_ (Ph.old h_s2 hs) (by assumption)).2 Q0) ?_
   refine WQ.p Q0 (fun w hs => Yl.net eqt36 Q0 Q0) ?_
   refine WQ.next ?_
   clear hs; intro w hs
   refine WC.condS Q0 (fun h3 => ?_) (fun h3 => ?_)
   ·
    replace h3 := not_eq_true h3
    replace h3 := of_decide_eq_false h3
    refine WC.seq ?_
    refine Qa ?_
    refine WL.next ?_
    refine WC.ret ?_
    refine At.blockret ?_
    refine At.thenret ?_
    refine At.thenret ?_
    refine At.blockret ?_
    refine At.thenret ?_
    refine fin1' rfl Q0 ?_
    refine RetP.mk hs ?_
    rw [hJ]; simp_all
   ·
    replace h3 := not_eq_false h3
    replace h3 := of_decide_eq_true h3
    refine WC.skip ?_
    refine At.blocknormal ?_
    refine At.then_ ?_
    refine WC.region ?_
    refine WL.p Q0 (Yl.add Q0 Q0 Q7) ?_
    refine Qm ?_
    refine WL.nil ?_
    refine At.roundC (k + 1) (hs.only Q2) ⟨by rfl, by rfl, by rfl, by rfl, trivial⟩ ⟨by rfl, trivial⟩ ?_ ?_
    ·
     omega
    ·
     rw [hJ]; simp_all
  ·
   replace h2 := of_decide_eq_false h2
   rw [drop_out (l := s1.l) Q7, drop_out (l := s2.l) Q7] at hJ
   refine WC.exit ?_
   refine At.thenexit ?_
   refine At.thenexit ?_
   refine At.blockexit ?_
   refine At.then_ ?_
   refine WC.seq ?_
   refine Qa ?_
   refine WL.next ?_
   refine WC.ret ?_
   refine fin1' rfl Q0 ?_
   refine RetP.mk hs ?_
   rw [hJ]; simp_all

theorem c_impl_equalSheet (a : PSheet) (b : PSheet) (w : World) (h_a : Ph.ok w a) (h_b : Ph.ok w b)  : Calls Tryz.prog 35 [.agg #[Sl.v a.rules], .agg #[Sl.v b.rules]].toArray w (RetP w (Bo (decide (a.lg = b.lg)))) := by
 refine enterN 10 Tryz.func35 rfl rfl rfl ?_
 have hs := Sat.start w
 refine WC.seq ?_
 refine WL.r Q0 (Yr.box hs Q0 Q0) ?_
 clear hs; rintro _ w ⟨b1, rfl, hb, hs⟩; clear hb
 refine WL.r Q0 (Yr.box hs Q0 Q0) ?_
 clear hs; rintro _ w ⟨b2, rfl, hb, hs⟩; clear hb
 refine Qa ?_
 refine WL.next ?_
 refine WC.seq ?_
 refine WL.p Q0 (Yl.fieldAddr fa27_0 Q0) ?_
 refine WL.p Q0 (Yl.loadB sca25 Q0 hs Q1 Q0) ?_
 refine WL.p Q0 (Yl.fieldAddr fa27_0 Q0) ?_
 refine WL.p Q0 (Yl.loadB sca25 Q0 hs Q1 Q0) ?_
 refine WL.callp hs Q0 (Yc.func Q0 fn62) (c_slices_Equal___impl_Rule_impl_Rule_ _ _ _ (Ph.old h_a.rules hs) (Ph.old h_b.rules hs)) ?_
 clear hs; intro w hs
 refine Qa ?_
 refine WL.next ?_
 refine WC.ret ?_
 refine fin1' rfl Q0 ?_
 refine RetP.mk hs ?_
 simp_all [TSheet.ext_iff]

theorem c_impl_EqualSheets (a : (Sl PSheet)) (b : (Sl PSheet)) (w : World) (h_a : Ph.ok w a) (h_b : Ph.ok w b)  : Calls Tryz.prog 8 [Sl.v a, Sl.v b].toArray w (RetP w (Bo (decide (a.l.map PSheet.lg = b.l.map PSheet.lg)))) := by
 refine enterN 8 Tryz.func8 rfl rfl rfl ?_
 have hs := Sat.start w
 refine WC.seq ?_
 refine Qa ?_
 refine WL.next ?_
 refine WC.seq ?_
 refine Qm ?_
 refine Qm ?_
 refine WL.callp hs Q0 (Yc.func Q0 fn34) (c_slices_EqualFunc___impl_Sheet___impl_Sheet_impl_Sheet_impl_Sheet_ _ _ 35 _ (fun x y => decide (x.lg = y.lg)) _ (Ph.old h_a hs) (Ph.old h_b hs) fn35 (fun x hx y hy w1 hb1 => c_impl_equalSheet x y w1 (Ph.ext hb1 ((Ph.old h_a hs).elems x hx)) (Ph.ext hb1 ((Ph.old h_b hs).elems y hy)))) ?_
 clear hs; intro w hs
 refine Qa ?_
 refine WL.next ?_
 refine WC.ret ?_
 refine fin1' rfl Q0 ?_
 refine RetP.mk hs ?_
 first
  | (simp only [eqWith_map]; done)
  | simp_all [eqWith_map]

theorem c_spec_l5Split (s : Str) (b : UInt8) (w : World)  (hb : s.length ≤ 2097152) : Calls Tryz.prog 36 [S s, U8 b].toArray w (Ret w (fun v w' => ∃ x : Sl Str, v = x.v ∧ x.l = splitC b s ∧ Fresh w x w')) := by
 refine enterN 36 Tryz.func36 rfl rfl rfl ?_
 have hs := Sat.start w
 refine WC.seq ?_
 refine Qa ?_
 refine WL.next ?_
 refine WC.seq ?_
 refine WL.r Q0 (Yr.buildSlice hs sll48 Q0 Q0 Q0 Q4 Q0) ?_
 clear hs; rintro _ w ⟨b1, rfl, hb, hs⟩; clear hb
 refine Qa ?_
 refine WL.next ?_
 refine WC.seq ?_
 refine Qa ?_
 refine WL.next ?_
 refine WC.seq' ?_
 refine WC.seq ?_
 refine Qa ?_
 refine WL.next ?_
 refine WC.block ?_
 replace hs := Sat.boxow (l := ([] : List Str)) hs rfl rfl (by simp) (ownL_mk_flat (by simp))
 refine WC.loopC (ι := Nat × Nat × Sl Str × List Nat) (fun ⟨k, f, q, F⟩ => s.length + 1 - k) (fun ⟨k, f, q, F⟩ => [(7, I (k : Int)), (6, I (f : Int)), (5, q.v)]) (fun ⟨k, f, q, F⟩ => [ow q F]) (fun ⟨k, f, q, F⟩ => (k ≤ s.length ∧ f ≤ k ∧ splitC b s = q.l ++ preH ((s.drop f).take (k - f)) (splitC b (s.drop k))) ∨ (k = s.length + 1 ∧ splitC b s = q.l)) [(0, _), (1, _), (4, _)] (0, 0, ⟨[], some ⟨b1, 0, none⟩, 0⟩, [b1]) (hs.sel (D := [ow (⟨[], some ⟨b1, 0, none⟩, 0⟩ : Sl Str) [b1]]) Q2) ⟨by rfl, by rfl, by rfl, trivial⟩ ⟨by rfl, by rfl, by rfl, trivial⟩ ?_ ?_
 ·
  exact .inl ⟨Nat.zero_le _, Nat.le_refl _, by simp [preH_nil]⟩
 clear hs; rintro ⟨k, f, q, F⟩ w hJ hs
 simp only [List.cons_append, List.nil_append] at hs
 refine WC.seq' ?_
 refine WC.seq ?_
 refine Qm ?_
 refine Qm ?_
 refine WL.p Q0 (Yl.len_str str9 Q0) ?_
 refine WL.p Q0 (Yl.leq Q0 Q0) ?_
 refine WL.next ?_
 refine WC.condS Q0 (fun h1 => ?_) (fun h1 => ?_)
 ·
  replace h1 := of_decide_eq_true h1
  obtain ⟨hJ1, hJ2, hJ3⟩ : k ≤ s.length ∧ f ≤ k ∧ splitC b s = q.l ++ preH ((s.drop f).take (k - f)) (splitC b (s.drop k)) := by
   rcases hJ with h | h
   · exact h
   · omega
  have hlq : q.l.length ≤ s.length + 1 := by
   have e1 := congrArg List.length hJ3
   have e2 := splitC_len b s
   simp only [List.length_append] at e1
   omega
  refine WC.skipn ?_
  refine WC.seq' ?_
  refine WC.block ?_
  refine WC.seq ?_
  refine Qm ?_
  refine Qm ?_
  refine WL.p Q0 (Yl.len_str str9 Q0) ?_
  refine WL.p Q0 (Yl.eqi Q0 Q0) ?_
  refine Qm ?_
  refine WL.split (d := 19) Q0 (fun h2 => ?_) (fun h2 => ?_)
  ·
   replace h2 := of_decide_eq_true h2
   refine WL.skip (d := 19) Q0 Q0 Q0 Q0 ?_
   refine WL.skip (d := 19) Q0 Q0 Q0 Q0 ?_
   refine WL.skip (d := 19) Q0 Q0 Q0 Q0 ?_
   refine WL.skip (d := 19) Q0 Q0 Q0 Q0 ?_
   refine WL.skip (d := 19) Q0 Q0 Q0 Q0 ?_
   refine WL.p Q0 (Yl.pickT Q0 Q0) ?_
   refine WL.next ?_
   refine WC.condT Q0 ?_
   refine WC.seq ?_
   refine Qm ?_
   refine Qm ?_
   refine Qm ?_
   refine Qm ?_
   refine WL.p Q0 (Yl.slice_str str9 Q0 (by exact ⟨_, by rfl⟩) (by exact ⟨_, by rfl⟩) Q7 Q7) ?_
   refine WL.r Q0 (Yr.buildSlice hs sll48 Q0 Q0 Q0 Q4 Q0) ?_
   clear hs; rintro _ w ⟨b2, rfl, hb, hs⟩; clear hb
   refine WL.r Q0 (Yr.append (s := q) (F := F) hs elt48 Q2 Q0 Q0 rfl (xs := [(s.drop f).take (k - f)]) (hs.box_cells Q1) (by intro x hx; obtain rfl := List.mem_singleton.1 hx; show WfS _; unfold WfS; simp only [List.length_take, List.length_drop]; omega) (by simp; unfold maxLen; omega) (by simp; omega)) ?_
   clear hs; rintro _ w ⟨s3, F3, rfl, hl3, hs⟩
   refine Qa ?_
   refine WL.next ?_
   refine WC.region ?_
   refine Qm ?_
   refine WL.p Q0 (Yl.add Q0 Q0 Q7) ?_
   refine Qa ?_
   refine WL.nil ?_
   refine At.blocknormal ?_
   refine At.then_ ?_
   refine WC.region ?_
   refine Qm ?_
   refine WL.p Q0 (Yl.add Q0 Q0 Q7) ?_
   refine Qa ?_
   refine WL.nil ?_
   refine At.roundC (k + 1, k + 1, s3, F3) (hs.only Q2) ⟨by rfl, by rfl, by rfl, trivial⟩ ⟨by rfl, by rfl, by rfl, trivial⟩ ?_ ?_
   ·
    show s.length + 1 - (k + 1) < s.length + 1 - k
    omega
   ·
    refine .inr ⟨by omega, ?_⟩
    rw [hl3, hJ3]
    obtain rfl : k = s.length := by omega
    rw [List.drop_length, preH_end]
  ·
   replace h2 := of_decide_eq_false h2
   refine WL.run (d := 19) Q0 Q0 ?_
   refine Qm ?_
   refine WL.run (d := 19) Q0 Q0 ?_
   refine Qm ?_
   refine WL.run (d := 19) Q0 Q0 ?_
   refine WL.p Q0 (Yl.index str9 Q0 Q0 Q0 (by first | assumption | exact List.getElem?_eq_getElem Q7)) ?_
   refine WL.run (d := 19) Q0 Q0 ?_
   refine Qm ?_
   refine WL.run (d := 19) Q0 Q0 ?_
   refine WL.p Q0 (Yl.eqi Q0 Q0) ?_
   refine WL.p Q0 (Yl.pickF Q0 Q0) ?_
   refine WL.next ?_
   refine WC.condS Q0 (fun h3 => ?_) (fun h3 => ?_)
   ·
    replace h3 := of_decide_eq_true h3
    refine WC.seq ?_
    refine Qm ?_
    refine Qm ?_
    refine Qm ?_
    refine Qm ?_
    refine WL.p Q0 (Yl.slice_str str9 Q0 (by exact ⟨_, by rfl⟩) (by exact ⟨_, by rfl⟩) Q7 Q7) ?_
    refine WL.r Q0 (Yr.buildSlice hs sll48 Q0 Q0 Q0 Q4 Q0) ?_
    clear hs; rintro _ w ⟨b4, rfl, hb, hs⟩; clear hb
    refine WL.r Q0 (Yr.append (s := q) (F := F) hs elt48 Q2 Q0 Q0 rfl (xs := [(s.drop f).take (k - f)]) (hs.box_cells Q1) (by intro x hx; obtain rfl := List.mem_singleton.1 hx; show WfS _; unfold WfS; simp only [List.length_take, List.length_drop]; omega) (by simp; unfold maxLen; omega) (by simp; omega)) ?_
    clear hs; rintro _ w ⟨s5, F5, rfl, hl5, hs⟩
    refine Qa ?_
    refine WL.next ?_
    refine WC.region ?_
    refine Qm ?_
    refine WL.p Q0 (Yl.add Q0 Q0 Q7) ?_
    refine Qa ?_
    refine WL.nil ?_
    refine At.blocknormal ?_
    refine At.then_ ?_
    refine WC.region ?_
    refine Qm ?_
    refine WL.p Q0 (Yl.add Q0 Q0 Q7) ?_
    refine Qa ?_
    refine WL.nil ?_
    refine At.roundC (k + 1, k + 1, s5, F5) (hs.only Q2) ⟨by rfl, by rfl, by rfl, trivial⟩ ⟨by rfl, by rfl, by rfl, trivial⟩ ?_ ?_
    ·
     show s.length + 1 - (k + 1) < s.length + 1 - k
     omega
    ·
     have hc := List.drop_eq_getElem_cons (l := s) (i := k) Q7
     have hcb : s[k] = b := by apply UInt8.toNat_inj.1; omega
     refine .inl ⟨by omega, Nat.le_refl _, ?_⟩
     rw [hl5, hJ3, hc, hcb, preH_cut, Nat.sub_self, List.take_zero, preH_nil]; simp
   ·
    replace h3 := of_decide_eq_false h3
    refine WC.skip ?_
    refine At.blocknormal ?_
    refine At.then_ ?_
    refine WC.region ?_
    refine Qm ?_
    refine WL.p Q0 (Yl.add Q0 Q0 Q7) ?_
    refine Qa ?_
    refine WL.nil ?_
    refine At.roundC (k + 1, f, q, F) (hs.only Q2) ⟨by rfl, by rfl, by rfl, trivial⟩ ⟨by rfl, by rfl, by rfl, trivial⟩ ?_ ?_
    ·
     show s.length + 1 - (k + 1) < s.length + 1 - k
     omega
    ·
     have hc := List.drop_eq_getElem_cons (l := s) (i := k) Q7
     have hcb : s[k] ≠ b := by intro h; apply h3; rw [h]
     refine .inl ⟨by omega, by omega, ?_⟩
     have e : (s.drop f).take (k + 1 - f) = (s.drop f).take (k - f) ++ [s[k]] := by
      rw [show k + 1 - f = (k - f) + 1 from by omega, List.take_add_one, List.getElem?_drop, show f + (k - f) = k from by omega, List.getElem?_eq_getElem Q7]; rfl
     rw [e, hJ3, hc, preH_step hcb]
 ·
  replace h1 := of_decide_eq_false h1
  refine WC.exit ?_
  refine At.thenexit ?_
  refine At.thenexit ?_
  refine At.blockexit ?_
  refine At.then_ ?_
  refine WC.seq ?_
  refine Qm ?_
  refine Qa ?_
  refine WL.next ?_
  refine WC.ret ?_
  refine fin1' rfl Q0 ?_
  refine Ret.mk hs ?_
  rcases hJ with h | ⟨_, h⟩
  · omega
  · exact ⟨q, rfl, h.symm, hs.fresh Q1⟩

theorem c_spec_l1In (x : Int) (least : Int) (most : Int) (w : World)   : Calls Tryz.prog 39 [I x, I least, I most].toArray w (RetP w (Bo (inR x least most))) := by
 refine enterN 15 Tryz.func39 rfl rfl rfl ?_
 have hs := Sat.start w
 refine WC.seq ?_
 refine Qa ?_
 refine WL.next ?_
 refine WC.seq ?_
 refine Qm ?_
 refine Qm ?_
 refine WL.p Q0 (Yl.geq Q0 Q0) ?_
 refine Qm ?_
 refine WL.split (d := 10) Q0 (fun h1 => ?_) (fun h1 => ?_)
 ·
  replace h1 := of_decide_eq_true h1
  refine WL.run (d := 10) Q0 Q0 ?_
  refine Qm ?_
  refine WL.run (d := 10) Q0 Q0 ?_
  refine Qm ?_
  refine WL.run (d := 10) Q0 Q0 ?_
  refine WL.p Q0 (Yl.leq Q0 Q0) ?_
  refine WL.p Q0 (Yl.pickT Q0 Q0) ?_
  refine Qa ?_
  refine WL.next ?_
  refine WC.ret ?_
  refine fin1' rfl Q0 ?_
  refine RetP.mk hs ?_
  simp [inR, h1]
 ·
  replace h1 := of_decide_eq_false h1
  refine WL.skip (d := 10) Q0 Q0 Q0 Q0 ?_
  refine WL.skip (d := 10) Q0 Q0 Q0 Q0 ?_
  refine WL.skip (d := 10) Q0 Q0 Q0 Q0 ?_
  refine WL.p Q0 (Yl.pickF Q0 Q0) ?_
  refine Qa ?_
  refine WL.next ?_
  refine WC.ret ?_
  refine fin1' rfl Q0 ?_
  refine RetP.mk hs ?_
  rw [inR_false.2 Q7]

theorem c_spec_IsName (s : Str) (w : World) (h_s : Ph.ok w s)  : Calls Tryz.prog 37 [S s].toArray w (RetP w (Bo (isName s))) := by
 have hw : s.length ≤ 9223372036854775807 := h_s
 refine enterN 23 Tryz.func37 rfl rfl rfl ?_
 have hs := Sat.start w
 refine WC.seq ?_
 refine Qa ?_
 refine WL.next ?_
 refine WC.seq' ?_
 refine WC.seq ?_
 refine Qa ?_
 refine WL.next ?_
 refine WC.block ?_
 refine WC.loopC (ι := Nat) (fun k => s.length - k) (fun k => [(3, I (k : Int))]) (fun _ => []) (fun k => s.all lower = (s.drop k).all lower) [(0, _)] 0 (hs) ⟨by rfl, trivial⟩ ⟨by rfl, trivial⟩ ?_ ?_
 ·
  simp
 clear hs; rintro k w hJ hs
 simp only [List.nil_append] at hs
 refine WC.seq' ?_
 refine WC.seq ?_
 refine Qm ?_
 refine Qm ?_
 refine WL.p Q0 (Yl.len_str str9 Q0) ?_
 refine WL.p Q0 (Yl.lss Q0 Q0) ?_
 refine WL.next ?_
 refine WC.condS Q0 (fun h1 => ?_) (fun h1 => ?_)
 ·
  replace h1 := of_decide_eq_true h1
  obtain ⟨d, hd⟩ := exists_get (l := s) (k := k) Q7
  rw [drop_cons hd] at hJ
  refine WC.skipn ?_
  refine WC.seq' ?_
  refine WC.block ?_
  refine WC.seq ?_
  refine Qm ?_
  refine Qm ?_
  refine WL.p Q0 (Yl.index str9 Q0 Q0 Q0 (by first | assumption | exact List.getElem?_eq_getElem Q7)) ?_
  refine WL.p Q0 (Yl.lss Q0 Q0) ?_
  refine Qm ?_
  refine WL.split (d := 14) Q0 (fun h2 => ?_) (fun h2 => ?_)
  ·
   replace h2 := of_decide_eq_true h2
   refine WL.skip (d := 14) Q0 Q0 Q0 Q0 ?_
   refine WL.skip (d := 14) Q0 Q0 Q0 Q0 ?_
   refine WL.skip (d := 14) Q0 Q0 Q0 Q0 ?_
   refine WL.skip (d := 14) Q0 Q0 Q0 Q0 ?_
   refine WL.p Q0 (Yl.pickT Q0 Q0) ?_
   refine WL.next ?_
   refine WC.condT Q0 ?_
   refine WC.seq ?_
   refine Qa ?_
   refine WL.next ?_
   refine WC.ret ?_
   refine At.blockret ?_
   refine At.thenret ?_
   refine At.thenret ?_
   refine At.blockret ?_
   refine At.thenret ?_
   refine fin1' rfl Q0 ?_
   refine RetP.mk hs ?_
   first
    | (simp [isName, hJ, lower]; done)
    | (simp [isName, hJ, lower]; omega)
    | simp_all [isName, hJ, lower]
  ·
   replace h2 := of_decide_eq_false h2
   refine WL.run (d := 14) Q0 Q0 ?_
   refine Qm ?_
   refine WL.run (d := 14) Q0 Q0 ?_
   refine Qm ?_
   refine WL.run (d := 14) Q0 Q0 ?_
   refine WL.p Q0 (Yl.index str9 Q0 Q0 Q0 (by first | assumption | exact List.getElem?_eq_getElem Q7)) ?_
   refine WL.run (d := 14) Q0 Q0 ?_
   refine WL.p Q0 (Yl.gtr Q0 Q0) ?_
   refine WL.p Q0 (Yl.pickF Q0 Q0) ?_
   refine WL.next ?_
   refine WC.condS Q0 (fun h3 => ?_) (fun h3 => ?_)
   ·
    replace h3 := of_decide_eq_true h3
    refine WC.seq ?_
    refine Qa ?_
    refine WL.next ?_
    refine WC.ret ?_
    refine At.blockret ?_
    refine At.thenret ?_
    refine At.thenret ?_
    refine At.blockret ?_
    refine At.thenret ?_
    refine fin1' rfl Q0 ?_
    refine RetP.mk hs ?_
    first
     | (simp [isName, hJ, lower]; done)
     | (simp [isName, hJ, lower]; omega)
     | simp_all [isName, hJ, lower]
   ·
    replace h3 := of_decide_eq_false h3
    refine WC.skip ?_
    refine At.blocknormal ?_
    refine At.then_ ?_
    refine WC.region ?_
    refine Qm ?_
    refine WL.p Q0 (Yl.add Q0 Q0 Q7) ?_
    refine Qa ?_
    refine WL.nil ?_
    refine At.roundC (k + 1) (hs.only Q2) ⟨by rfl, trivial⟩ ⟨by rfl, trivial⟩ ?_ ?_
    ·
     omega
    ·
     rw [hJ]; simp [lower]; omega
 ·
  replace h1 := of_decide_eq_false h1
  rw [drop_out (l := s) Q7] at hJ
  refine WC.exit ?_
  refine At.thenexit ?_
  refine At.thenexit ?_
  refine At.blockexit ?_
  refine At.then_ ?_
  refine WC.seq ?_
  refine Qm ?_
  refine WL.p Q0 (Yl.len_str str9 Q0) ?_
  refine WL.callp hs Q0 (Yc.func Q0 fn39) (c_spec_l1In _ _ _ _) ?_
  clear hs; intro w hs
  refine Qa ?_
  refine WL.next ?_
  refine WC.ret ?_
  refine fin1' rfl Q0 ?_
  refine RetP.mk hs ?_
  first
   | (simp [isName, hJ, lower]; done)
   | (simp [isName, hJ, lower]; omega)
   | simp_all [isName, hJ, lower]

theorem c_spec_FormatInt (n : Int) (w : World) (h_n : Ph.ok w n)  : Calls Tryz.prog 57 [I n].toArray w (RetP w (S (Lib.itoa n))) := by
 refine enterN 31 Tryz.func57 rfl rfl rfl ?_
 have hs := Sat.start w
 refine WC.seq ?_
 refine Qa ?_
 refine WL.next ?_
 refine WC.seq' ?_
 refine WC.seq ?_
 refine Qm ?_
 refine WL.p Q0 (Yl.eqi Q0 Q0) ?_
 refine WL.next ?_
 refine WC.condS Q0 (fun h1 => ?_) (fun h1 => ?_)
 ·
  replace h1 := of_decide_eq_true h1
  refine WC.seq ?_
  refine Qa ?_
  refine WL.next ?_
  refine WC.ret ?_
  refine At.thenret ?_
  refine fin1' rfl Q0 ?_
  refine RetP.mk hs ?_
  rw [h1, itoa_zero]
 ·
  replace h1 := of_decide_eq_false h1
  refine WC.skipn ?_
  refine WC.seq ?_
  refine Qa ?_
  refine WL.next ?_
  refine WC.seq' ?_
  refine WC.seq ?_
  refine Qm ?_
  refine Qa ?_
  refine WL.next ?_
  refine WC.block ?_
  refine WC.loopC (ι := Int × Str) (fun ⟨x, q⟩ => x.natAbs) (fun ⟨x, q⟩ => [(4, I x), (3, S q)]) (fun _ => []) (fun ⟨x, q⟩ => -9223372036854775808 ≤ x ∧ x ≤ 9223372036854775807 ∧ dig0 n.natAbs = dig0 x.natAbs ++ q) [(0, _), (2, _), (7, _)] (n, []) (hs) ⟨by rfl, by rfl, by rfl, trivial⟩ ⟨by rfl, by rfl, trivial⟩ ?_ ?_
  ·
   exact ⟨h_n.lo, h_n.hi, by simp⟩
  clear hs; rintro ⟨x, q⟩ w ⟨hJ1, hJ2, hJ3⟩ hs
  simp only [List.nil_append] at hs
  refine WC.seq' ?_
  refine WC.seq ?_
  refine Qm ?_
  refine WL.p Q0 (Yl.nei Q0 Q0) ?_
  refine WL.next ?_
  refine WC.condS Q0 (fun h2 => ?_) (fun h2 => ?_)
  ·
   replace h2 := not_eq_true h2
   replace h2 := of_decide_eq_false h2
   refine WC.skipn ?_
   refine WC.seq' ?_
   refine WC.block ?_
   refine WC.seq ?_
   refine Qm ?_
   refine WL.p Q0 (Yl.remw Q0 Q0 (by decide)) ?_
   refine Qa ?_
   refine WL.next ?_
   refine WC.seq' ?_
   refine WC.seq ?_
   refine Qm ?_
   refine WL.p Q0 (Yl.lss Q0 Q0) ?_
   refine WL.next ?_
   refine WC.condS Q0 (fun h3 => ?_) (fun h3 => ?_)
   ·
    replace h3 := of_decide_eq_true h3
    refine WC.region ?_
    refine Qm ?_
    refine WL.p Q0 (Yl.neg Q0) ?_
    refine Qa ?_
    refine WL.nil ?_
    refine At.then_ ?_
    refine WC.region ?_
    refine Qm ?_
    refine WL.p Q0 (Yl.add Q0 Q0 (by first | (have e9 := tmod10_abs x; first | omega | (rw [wrap_in Q7]; omega)) | (have e8 := congrArg List.length hJ3; have e7 := dig0_len n.natAbs; have e5 := h_n.lo; have e6 := h_n.hi; simp only [List.length_append, List.length_cons, List.length_nil] at *; omega))) ?_
    refine WL.p Q0 (Yl.intByte (c := UInt8.ofNat (48 + x.natAbs % 10)) Q6 u8t5 Q0 (by rw [digit_nat]; have e9 := tmod10_abs x; first | omega | (rw [wrap_in Q7]; omega))) ?_
    refine WL.r Q0 (Yr.buildSlice hs sll22 Q0 Q0 Q0 Q4 Q0) ?_
    clear hs; rintro _ w ⟨b1, rfl, hb, hs⟩; clear hb
    refine WL.p Q0 (Yl.bytesStr (l := [UInt8.ofNat (48 + x.natAbs % 10)]) slu22 u8t5 str9 Q0 (hs.box_cells Q1) Q0 Q0) ?_
    refine Qm ?_
    refine WL.p Q0 (Yl.cat Q0 Q0 (by first | (have e9 := tmod10_abs x; first | omega | (rw [wrap_in Q7]; omega)) | (have e8 := congrArg List.length hJ3; have e7 := dig0_len n.natAbs; have e5 := h_n.lo; have e6 := h_n.hi; simp only [List.length_append, List.length_cons, List.length_nil] at *; omega))) ?_
    refine Qa ?_
    refine WL.nil ?_
    refine At.blocknormal ?_
    refine At.then_ ?_
    refine WC.region ?_
    refine Qm ?_
    refine WL.p Q0 (Yl.quow Q0 Q0 (by decide)) ?_
    refine Qa ?_
    refine WL.nil ?_
    refine At.roundC (x.tdiv 10, UInt8.ofNat (48 + x.natAbs % 10) :: q) (hs.only Q2) ⟨by rfl, by rfl, by rfl, trivial⟩ ⟨by exact congrArg (fun z => some (I z)) (quo_abs hJ1 hJ2), by rfl, trivial⟩ ?_ ?_
    ·
     show (x.tdiv 10).natAbs < x.natAbs
     rw [natAbs_tdiv10]; omega
    ·
     have e9 := natAbs_tdiv10 x
     exact ⟨by show _ ≤ x.tdiv 10; omega, by show x.tdiv 10 ≤ _; omega, by rw [natAbs_tdiv10, hJ3, dig0_step (show x.natAbs ≠ 0 by omega)]; simp⟩
   ·
    replace h3 := of_decide_eq_false h3
    refine WC.skipn ?_
    refine WC.region ?_
    refine Qm ?_
    refine WL.p Q0 (Yl.add Q0 Q0 (by first | (have e9 := tmod10_abs x; first | omega | (rw [wrap_in Q7]; omega)) | (have e8 := congrArg List.length hJ3; have e7 := dig0_len n.natAbs; have e5 := h_n.lo; have e6 := h_n.hi; simp only [List.length_append, List.length_cons, List.length_nil] at *; omega))) ?_
    refine WL.p Q0 (Yl.intByte (c := UInt8.ofNat (48 + x.natAbs % 10)) Q6 u8t5 Q0 (by rw [digit_nat]; have e9 := tmod10_abs x; first | omega | (rw [wrap_in Q7]; omega))) ?_
    refine WL.r Q0 (Yr.buildSlice hs sll22 Q0 Q0 Q0 Q4 Q0) ?_
    clear hs; rintro _ w ⟨b2, rfl, hb, hs⟩; clear hb
    refine WL.p Q0 (Yl.bytesStr (l := [UInt8.ofNat (48 + x.natAbs % 10)]) slu22 u8t5 str9 Q0 (hs.box_cells Q1) Q0 Q0) ?_
    refine Qm ?_
    refine WL.p Q0 (Yl.cat Q0 Q0 (by first | (have e9 := tmod10_abs x; first | omega | (rw [wrap_in Q7]; omega)) | (have e8 := congrArg List.length hJ3; have e7 := dig0_len n.natAbs; have e5 := h_n.lo; have e6 := h_n.hi; simp only [List.length_append, List.length_cons, List.length_nil] at *; omega))) ?_
    refine Qa ?_
    refine WL.nil ?_
    refine At.blocknormal ?_
    refine At.then_ ?_
    refine WC.region ?_
    refine Qm ?_
    refine WL.p Q0 (Yl.quow Q0 Q0 (by decide)) ?_
    refine Qa ?_
    refine WL.nil ?_
    refine At.roundC (x.tdiv 10, UInt8.ofNat (48 + x.natAbs % 10) :: q) (hs.only Q2) ⟨by rfl, by rfl, by rfl, trivial⟩ ⟨by exact congrArg (fun z => some (I z)) (quo_abs hJ1 hJ2), by rfl, trivial⟩ ?_ ?_
    ·
     show (x.tdiv 10).natAbs < x.natAbs
     rw [natAbs_tdiv10]; omega
    ·
     have e9 := natAbs_tdiv10 x
     exact ⟨by show _ ≤ x.tdiv 10; omega, by show x.tdiv 10 ≤ _; omega, by rw [natAbs_tdiv10, hJ3, dig0_step (show x.natAbs ≠ 0 by omega)]; simp⟩
  ·
   replace h2 := not_eq_false h2
   replace h2 := of_decide_eq_true h2
   refine WC.exit ?_
   refine At.thenexit ?_
   refine At.thenexit ?_
   refine At.blockexit ?_
   refine At.then_ ?_
   refine WC.seq' ?_
   refine WC.seq ?_
   refine Qm ?_
   refine WL.p Q0 (Yl.lss Q0 Q0) ?_
   refine WL.next ?_
   refine WC.condS Q0 (fun h3 => ?_) (fun h3 => ?_)
   ·
    replace h3 := of_decide_eq_true h3
    refine WC.seq ?_
    refine Qm ?_
    refine WL.p Q0 (Yl.cat Q0 Q0 (by first | (have e9 := tmod10_abs x; first | omega | (rw [wrap_in Q7]; omega)) | (have e8 := congrArg List.length hJ3; have e7 := dig0_len n.natAbs; have e5 := h_n.lo; have e6 := h_n.hi; simp only [List.length_append, List.length_cons, List.length_nil] at *; omega))) ?_
    refine Qa ?_
    refine WL.next ?_
    refine WC.ret ?_
    refine At.thenret ?_
    refine fin1' rfl Q0 ?_
    refine RetP.mk hs ?_
    have hx0 : x = 0 := by omega
    subst hx0
    first
     | (rw [itoa_neg' Q7, hJ3]; rfl)
     | (rw [itoa_pos Q7 Q7, hJ3]; rfl)
   ·
    replace h3 := of_decide_eq_false h3
    refine WC.skipn ?_
    refine WC.seq ?_
    refine Qm ?_
    refine Qa ?_
    refine WL.next ?_
    refine WC.ret ?_
    refine fin1' rfl Q0 ?_
    refine RetP.mk hs ?_
    have hx0 : x = 0 := by omega
    subst hx0
    first
     | (rw [itoa_neg' Q7, hJ3]; rfl)
     | (rw [itoa_pos Q7 Q7, hJ3]; rfl)

theorem c_spec_ParseInt (s : Str) (w : World) (h_s : Ph.ok w s)  : Calls Tryz.prog 38 [S s].toArray w (RetP w (.tuple #[I (parseI s), Bo (isInt s)])) := by
 have hw : s.length ≤ 9223372036854775807 := h_s
 refine enterN 39 Tryz.func38 rfl rfl rfl ?_
 have hs := Sat.start w
 refine WC.seq ?_
 refine Qa ?_
 refine Qa ?_
 refine WL.next ?_
 refine WC.seq' ?_
 refine WC.seq ?_
 refine Qm ?_
 refine WL.p Q0 (Yl.len_str str9 Q0) ?_
 refine WL.callp hs Q0 (Yc.func Q0 fn39) (c_spec_l1In _ _ _ _) ?_
 clear hs; intro w hs
 refine WL.p Q0 (Yl.not Q0) ?_
 refine WL.next ?_
 refine WC.condS Q0 (fun h1 => ?_) (fun h1 => ?_)
 ·
  replace h1 := not_eq_true h1
  replace h1 := inR_false.1 h1
  refine WC.seq ?_
  refine Qa ?_
  refine Qa ?_
  refine WL.next ?_
  refine WC.ret ?_
  refine At.thenret ?_
  refine fin2' rfl Q0 Q0 ?_
  refine RetP.mk hs ?_
  first
   | exact parse_no (not_digit hd Q7)
   | exact parse_no (int_out Q7)
   | (have e8 : s.take k = s := List.take_of_length_le Q7
      have e7 : m = decVal s := by rw [hJ3, e8]
      subst e7; rw [e8] at hJ2
      first
        | exact parse_no (int_big Q7)
        | exact parse_no (int_text (by assumption))
        | exact parse_yes (int_yes Q7 hJ2 Q7 (by assumption)))
 ·
  replace h1 := not_eq_false h1
  replace h1 := inR_true.1 h1
  refine WC.skipn ?_
  refine WC.seq ?_
  refine Qa ?_
  refine WL.next ?_
  refine WC.seq' ?_
  refine WC.seq ?_
  refine Qa ?_
  refine WL.next ?_
  refine WC.block ?_
  refine WC.loopC (ι := Nat × Nat) (fun ⟨k, m⟩ => s.length - k) (fun ⟨k, m⟩ => [(4, I (m : Int)), (5, I (k : Int))]) (fun _ => []) (fun ⟨k, m⟩ => k ≤ s.length ∧ (s.take k).all digit = true ∧ m = decVal (s.take k)) [(0, _), (9, _)] (0, 0) (hs) ⟨by rfl, by rfl, trivial⟩ ⟨by rfl, by rfl, trivial⟩ ?_ ?_
  ·
   exact ⟨Nat.zero_le _, by simp, by simp [decVal]⟩
  clear hs; rintro ⟨k, m⟩ w ⟨hJ1, hJ2, hJ3⟩ hs
  simp only [List.nil_append] at hs
  refine WC.seq' ?_
  refine WC.seq ?_
  refine Qm ?_
  refine Qm ?_
  refine WL.p Q0 (Yl.len_str str9 Q0) ?_
  refine WL.p Q0 (Yl.lss Q0 Q0) ?_
  refine WL.next ?_
  refine WC.condS Q0 (fun h2 => ?_) (fun h2 => ?_)
  ·
   replace h2 := of_decide_eq_true h2
   obtain ⟨d, hd⟩ := exists_get (l := s) (k := k) Q7
   refine WC.skipn ?_
   refine WC.seq' ?_
   refine WC.block ?_
   refine WC.seq' ?_
   refine WC.seq ?_
   refine Qm ?_
   refine Qm ?_
   refine WL.p Q0 (Yl.index str9 Q0 Q0 Q0 (by first | assumption | exact List.getElem?_eq_getElem Q7)) ?_
   refine WL.p Q0 (Yl.byteInt Q6 i64t3 Q0) ?_
   refine WL.callp hs Q0 (Yc.func Q0 fn39) (c_spec_l1In _ _ _ _) ?_
   clear hs; intro w hs
   refine WL.p Q0 (Yl.not Q0) ?_
   refine WL.next ?_
   refine WC.condS Q0 (fun h3 => ?_) (fun h3 => ?_)
   ·
    replace h3 := not_eq_true h3
    replace h3 := inR_false.1 h3
    refine WC.seq ?_
    refine Qa ?_
    refine Qa ?_
    refine WL.next ?_
    refine WC.ret ?_
    refine At.thenret ?_
    refine At.blockret ?_
    refine At.thenret ?_
    refine At.thenret ?_
    refine At.blockret ?_
    refine At.thenret ?_
    refine fin2' rfl Q0 Q0 ?_
    refine RetP.mk hs ?_
    first
     | exact parse_no (not_digit hd Q7)
     | exact parse_no (int_out Q7)
     | (have e8 : s.take k = s := List.take_of_length_le Q7
        have e7 : m = decVal s := by rw [hJ3, e8]
        subst e7; rw [e8] at hJ2
        first
          | exact parse_no (int_big Q7)
          | exact parse_no (int_text (by assumption))
          | exact parse_yes (int_yes Q7 hJ2 Q7 (by assumption)))
   ·
    replace h3 := not_eq_false h3
    replace h3 := inR_true.1 h3
    refine WC.skipn ?_
    refine WC.region ?_
    refine Qm ?_
    refine WL.p Q0 (Yl.mul Q0 Q0 (by have hw13 := decVal_13 (s := s.take k) hJ2 (by simp; omega); omega)) ?_
    refine Qm ?_
    refine Qm ?_
    refine WL.p Q0 (Yl.index str9 Q0 Q0 Q0 (by first | assumption | exact List.getElem?_eq_getElem Q7)) ?_
    refine WL.p Q0 (Yl.subB (c := d) (d := 48) Q0 Q0) ?_
    refine WL.p Q0 (Yl.byteInt Q6 i64t3 Q0) ?_
    refine WL.p Q0 (Yl.add Q0 Q0 (by have hw13 := decVal_13 (s := s.take k) hJ2 (by simp; omega); have := (d - 48).toNat_lt; omega)) ?_
    refine Qa ?_
    refine WL.nil ?_
    refine At.blocknormal ?_
    refine At.then_ ?_
    refine WC.region ?_
    refine Qm ?_
    refine WL.p Q0 (Yl.add Q0 Q0 (by have hw13 := decVal_13 (s := s.take k) hJ2 (by simp; omega); have := (d - 48).toNat_lt; omega)) ?_
    refine Qa ?_
    refine WL.nil ?_
    refine At.roundC (k + 1, m * 10 + (d.toNat - 48)) (hs.only Q2) ⟨by rfl, by rfl, trivial⟩ ⟨by exact congrArg (fun z => some (I z)) (by rw [digit_sub Q7]; omega), by rfl, trivial⟩ ?_ ?_
    ·
     show s.length - (k + 1) < s.length - k
     omega
    ·
     have h9 := take_digit hd hJ2 Q7 Q7
     exact ⟨by omega, h9.1, by rw [h9.2, hJ3]⟩
  ·
   replace h2 := of_decide_eq_false h2
   refine WC.exit ?_
   refine At.thenexit ?_
   refine At.thenexit ?_
   refine At.blockexit ?_
   refine At.then_ ?_
   refine WC.seq' ?_
   refine WC.seq ?_
   refine Qm ?_
   refine WL.p Q0 (Yl.gtr Q0 Q0) ?_
   refine Qm ?_
   refine WL.split (d := 32) Q0 (fun h3 => ?_) (fun h3 => ?_)
   ·
    replace h3 := of_decide_eq_true h3
    refine WL.skip (d := 32) Q0 Q0 Q0 Q0 ?_
    refine WL.skip (d := 32) Q0 Q0 Q0 Q0 ?_
    refine WL.skip (d := 32) Q0 Q0 Q0 Q0 ?_
    refine WL.skip (d := 32) Q0 Q0 Q0 Q0 ?_
    refine WL.p Q0 (Yl.pickT Q0 Q0) ?_
    refine WL.next ?_
    refine WC.condT Q0 ?_
    refine WC.seq ?_
    refine Qa ?_
    refine Qa ?_
    refine WL.next ?_
    refine WC.ret ?_
    refine At.thenret ?_
    refine fin2' rfl Q0 Q0 ?_
    refine RetP.mk hs ?_
    first
     | exact parse_no (not_digit hd Q7)
     | exact parse_no (int_out Q7)
     | (have e8 : s.take k = s := List.take_of_length_le Q7
        have e7 : m = decVal s := by rw [hJ3, e8]
        subst e7; rw [e8] at hJ2
        first
          | exact parse_no (int_big Q7)
          | exact parse_no (int_text (by assumption))
          | exact parse_yes (int_yes Q7 hJ2 Q7 (by assumption)))
   ·
    replace h3 := of_decide_eq_false h3
    refine WL.run (d := 32) Q0 Q0 ?_
    refine Qm ?_
    refine WL.run (d := 32) Q0 Q0 ?_
    refine WL.callp hs Q0 (Yc.func Q0 fn57) (c_spec_FormatInt _ _ (show WfI _ from by have hw13 := decVal_13 (s := s.take k) hJ2 (by simp; omega); constructor <;> omega)) ?_
    clear hs; intro w hs
    refine WL.run (d := 32) Q0 Q0 ?_
    refine Qm ?_
    refine WL.run (d := 32) Q0 Q0 ?_
    refine WL.p Q0 (Yl.nes Q0 Q0) ?_
    refine WL.p Q0 (Yl.pickF Q0 Q0) ?_
    refine WL.next ?_
    refine WC.condS Q0 (fun h4 => ?_) (fun h4 => ?_)
    ·
     replace h4 := not_eq_true h4
     replace h4 := of_decide_eq_false h4
     refine WC.seq ?_
     refine Qa ?_
     refine Qa ?_
     refine WL.next ?_
     refine WC.ret ?_
     refine At.thenret ?_
     refine fin2' rfl Q0 Q0 ?_
     refine RetP.mk hs ?_
     first
      | exact parse_no (not_digit hd Q7)
      | exact parse_no (int_out Q7)
      | (have e8 : s.take k = s := List.take_of_length_le Q7
         have e7 : m = decVal s := by rw [hJ3, e8]
         subst e7; rw [e8] at hJ2
         first
           | exact parse_no (int_big Q7)
           | exact parse_no (int_text (by assumption))
           | exact parse_yes (int_yes Q7 hJ2 Q7 (by assumption)))
    ·
     replace h4 := not_eq_false h4
     replace h4 := of_decide_eq_true h4
     refine WC.skipn ?_
     refine WC.seq ?_
     refine Qm ?_
     refine Qa ?_
     refine Qa ?_
     refine WL.next ?_
     refine WC.ret ?_
     refine fin2' rfl Q0 Q0 ?_
     refine RetP.mk hs ?_
     first
      | exact parse_no (not_digit hd Q7)
      | exact parse_no (int_out Q7)
      | (have e8 : s.take k = s := List.take_of_length_le Q7
         have e7 : m = decVal s := by rw [hJ3, e8]
         subst e7; rw [e8] at hJ2
         first
           | exact parse_no (int_big Q7)
           | exact parse_no (int_text (by assumption))
           | exact parse_yes (int_yes Q7 hJ2 Q7 (by assumption)))

theorem c_spec_ParseSheet (s : Str) (w : World) (h_s : Ph.ok w s) (hb : s.length ≤ 2097152) : Calls Tryz.prog 9 [S s].toArray w (Ret w (fun v w' => ∃ x : PSheet, v = .agg (Ph.enc x).toArray ∧ x.lg = ⟨sheetTo (splitC 59 s)⟩ ∧ Fresh w x w')) := by
 have hw : s.length ≤ 9223372036854775807 := h_s
 refine enterN 62 Tryz.func9 rfl rfl rfl ?_
 have hs := Sat.start w
 refine WC.seq ?_
 refine WL.r Q0 (Yr.alloc hs zt27) ?_
 clear hs; rintro _ w ⟨b1, rfl, hb, hs⟩; clear hb
 refine WL.next ?_
 refine WC.seq ?_
 refine WL.p Q0 (Yl.build bt27 Q0 Q4) ?_
 refine WL.r Q0 (Yr.alloc hs zt27) ?_
 clear hs; rintro _ w ⟨b2, rfl, hb, hs⟩; clear hb
 refine WL.s (Yr.storeB hs Q0 Q0 Q0 Q5 Q3 Q0 (by exact szf27)) ?_
 clear hs; rintro _ w hs
 refine WL.next ?_
 refine WC.seq ?_
 refine Qm ?_
 refine WL.call hs Q0 (Yc.func Q0 fn36) (c_spec_l5Split _ 59 _ (by first | assumption | omega | (simp only [lsz] at *; omega) | (simp only [lsz, strsz, TPolicy.size, TCache.size, TAddr.size, TRequest.size, TEntry.size, TResponse.size, TLine.size] at *; omega) | (simp only [lsz_map, TPage.size, TBuilder.size, TNode.size, TToken.size, TTokenizer.size, TServer.size, TFile.size, TNet.size, TCache.size, TSheet.size, strsz] at *; omega) | (simp only [lsz_map, TPage.size, TBuilder.size, TNode.size, TToken.size, TTokenizer.size, TServer.size, TFile.size, TNet.size, TCache.size, TSheet.size, strsz, lsz] at *; omega))) ?_
 have hs0 := hs; clear hs; intro v w hb hR hs; clear hs
 obtain ⟨x3, rfl, hx3, hf3⟩ := hR
 obtain ⟨F3, hs⟩ := hf3.sat hs0 hb; clear hs0 hf3
 have hle3 := Sl.Ok.le (hs.okow (x := x3) (F := F3) Q1)
 refine Qa ?_
 refine WL.next ?_
 refine WC.seq' ?_
 refine WC.seq ?_
 refine Qa ?_
 refine WL.next ?_
 refine WC.block ?_
 replace hs := Sat.nilsl (α := TRule) hs
 refine WC.loopC (ι := Nat × Sl TRule × List Nat) (fun ⟨k, q, F⟩ => x3.l.length - k) (fun ⟨k, q, F⟩ => [(5, I (k : Int))]) (fun ⟨k, q, F⟩ => [box b2 27 [Sl.v q], ow q F, ow x3 F3]) (fun ⟨k, q, F⟩ => k ≤ x3.l.length ∧ q.l = sheetTo (x3.l.take k)) [(0, _), (2, _), (3, _), (4, _)] (0, ⟨[], none, 0⟩, []) (hs.sel (D := [box b2 27 _, ow (⟨[], none, 0⟩ : Sl TRule) [], ow x3 F3]) Q2) ⟨by rfl, by rfl, by rfl, by rfl, trivial⟩ ⟨by rfl, trivial⟩ ?_ ?_
 ·
  exact ⟨Nat.zero_le _, rfl⟩
 clear hs; rintro ⟨k, q, F⟩ w ⟨hJ1, hJ2⟩ hs
 simp only [List.cons_append, List.nil_append] at hs
 refine WC.seq' ?_
 refine WC.seq ?_
 refine Qm ?_
 refine Qm ?_
 refine WL.p Q0 (Yl.len_sl slu48 Q0) ?_
 refine WL.p Q0 (Yl.lss Q0 Q0) ?_
 refine Qm ?_
 refine WL.split (d := 16) Q0 (fun h1 => ?_) (fun h1 => ?_)
 ·
  replace h1 := of_decide_eq_true h1
  refine WL.run (d := 16) Q0 Q0 ?_
  refine WL.p Q0 (Yl.fieldAddr fa27_0 Q0) ?_
  refine WL.run (d := 16) Q0 Q0 ?_
  refine WL.p Q0 (Yl.loadB sca25 Q0 hs Q1 Q0) ?_
  refine WL.run (d := 16) Q0 Q0 ?_
  refine WL.p Q0 (Yl.len_sl slu25 Q0) ?_
  refine WL.run (d := 16) Q0 Q0 ?_
  refine WL.p Q0 (Yl.lss Q0 Q0) ?_
  refine WL.p Q0 (Yl.pickT Q0 Q0) ?_
  refine WL.next ?_
  refine WC.condS Q0 (fun h2 => ?_) (fun h2 => ?_)
  ·
   replace h2 := of_decide_eq_true h2
   obtain ⟨d, hd⟩ := exists_get (l := x3.l) (k := k) Q7
   refine WC.skipn ?_
   refine WC.seq' ?_
   refine WC.block ?_
   refine WC.seq ?_
   refine Qm ?_
   refine Qm ?_
   refine WL.p Q0 (Yl.indexAddr slt48 Q0 Q0 (hs.okow (x := x3) (F := F3) Q1) Q0 (hd)) ?_
   refine WL.p Q0 (Yl.loadC0 sca9 Q0 (Sl.Ok.at_ (hs.okow (x := x3) (F := F3) Q1) (by assumption)).2 Q0) ?_
   refine WL.call hs Q0 (Yc.func Q0 fn36) (c_spec_l5Split _ 58 _ (by have := splitC_mem_le (List.mem_of_getElem? (hx3 ▸ hd)); omega)) ?_
   have hs0 := hs; clear hs; intro v w hb hR hs; clear hs
   obtain ⟨x4, rfl, hx4, hf4⟩ := hR
   obtain ⟨F4, hs⟩ := hf4.sat hs0 hb; clear hs0 hf4
   have hle4 := Sl.Ok.le (hs.okow (x := x4) (F := F4) Q1)
   refine Qa ?_
   refine WL.next ?_
   refine WC.seq' ?_
   refine WC.seq ?_
   refine Qm ?_
   refine WL.p Q0 (Yl.len_sl slu48 Q0) ?_
   refine WL.p Q0 (Yl.nei Q0 Q0) ?_
   refine Qm ?_
   refine WL.split (d := 32) Q0 (fun h3 => ?_) (fun h3 => ?_)
   ·
    replace h3 := not_eq_true h3
    replace h3 := of_decide_eq_false h3
    refine WL.skip (d := 32) Q0 Q0 Q0 Q0 ?_
    refine WL.skip (d := 32) Q0 Q0 Q0 Q0 ?_
    refine WL.skip (d := 32) Q0 Q0 Q0 Q0 ?_
    refine WL.skip (d := 32) Q0 Q0 Q0 Q0 ?_
    refine WL.skip (d := 32) Q0 Q0 Q0 Q0 ?_
    refine WL.p Q0 (Yl.pickT Q0 Q0) ?_
    refine WL.next ?_
    refine WC.condT Q0 ?_
    refine WC.exit ?_
    refine At.thenexit ?_
    refine At.blockexit ?_
    refine At.then_ ?_
    refine WC.region ?_
    refine Qm ?_
    refine WL.p Q0 (Yl.add Q0 Q0 (by have := (hs.okow (x := x3) (F := F3) Q1).lt; omega)) ?_
    refine Qa ?_
    refine WL.nil ?_
    refine At.roundC (k + 1, q, F) (hs.only Q2) ⟨by rfl, by rfl, by rfl, by rfl, trivial⟩ ⟨by rfl, trivial⟩ ?_ ?_
    ·
     show x3.l.length - (k + 1) < x3.l.length - k
     omega
    ·
     refine ⟨by omega, ?_⟩
     show q.l = sheetTo (x3.l.take (k + 1))
     rw [sheetTo_step hd (by rw [← hJ2]; omega), ← hJ2, ruleOf_len (by rw [← hx4]; omega)]; simp
   ·
    replace h3 := not_eq_false h3
    replace h3 := of_decide_eq_true h3
    obtain ⟨a, ha⟩ := exists_get (l := x4.l) (k := 0) Q7
    obtain ⟨c, hcc⟩ := exists_get (l := x4.l) (k := 1) Q7
    refine WL.run (d := 32) Q0 Q0 ?_
    refine Qm ?_
    refine WL.run (d := 32) Q0 Q0 ?_
    refine WL.p Q0 (Yl.indexAddr (k := 0) slt48 Q0 Q0 (hs.okow (x := x4) (F := F4) Q1) Q0 (ha)) ?_
    refine WL.run (d := 32) Q0 Q0 ?_
    refine WL.p Q0 (Yl.loadC0 sca9 Q0 (Sl.Ok.at_ (hs.okow (x := x4) (F := F4) Q1) (by assumption)).2 Q0) ?_
    refine WL.run (d := 32) Q0 Q0 ?_
    refine WL.callp hs Q0 (Yc.func Q0 fn37) (c_spec_IsName _ _ (Sl.Ok.elem (hs.okow (x := x4) (F := F4) Q1) ha)) ?_
    clear hs; intro w hs
    refine WL.run (d := 32) Q0 Q0 ?_
    refine WL.p Q0 (Yl.not Q0) ?_
    refine WL.p Q0 (Yl.pickF Q0 Q0) ?_
    refine WL.next ?_
    refine WC.condS Q0 (fun h4 => ?_) (fun h4 => ?_)
    ·
     replace h4 := not_eq_true h4
     refine WC.exit ?_
     refine At.thenexit ?_
     refine At.blockexit ?_
     refine At.then_ ?_
     refine WC.region ?_
     refine Qm ?_
     refine WL.p Q0 (Yl.add Q0 Q0 (by have := (hs.okow (x := x3) (F := F3) Q1).lt; omega)) ?_
     refine Qa ?_
     refine WL.nil ?_
     refine At.roundC (k + 1, q, F) (hs.only Q2) ⟨by rfl, by rfl, by rfl, by rfl, trivial⟩ ⟨by rfl, trivial⟩ ?_ ?_
     ·
      show x3.l.length - (k + 1) < x3.l.length - k
      omega
     ·
      have e9 := ruleOf_two (x := d) (a := a) (b := c) (by rw [← hx4]; omega) (by rw [← hx4]; exact ha) (by rw [← hx4]; exact hcc)
      refine ⟨by omega, ?_⟩
      show q.l = sheetTo (x3.l.take (k + 1))
      rw [sheetTo_step hd (by rw [← hJ2]; omega), ← hJ2, e9, if_neg (by first | (simp_all [inR]; done) | (simp_all [inR]; omega))]; simp
    ·
     replace h4 := not_eq_false h4
     refine WC.skipn ?_
     refine WC.seq ?_
     refine Qm ?_
     refine WL.p Q0 (Yl.indexAddr (k := 1) slt48 Q0 Q0 (hs.okow (x := x4) (F := F4) Q1) Q0 (hcc)) ?_
     refine WL.p Q0 (Yl.loadC0 sca9 Q0 (Sl.Ok.at_ (hs.okow (x := x4) (F := F4) Q1) (by assumption)).2 Q0) ?_
     refine WL.callp hs Q0 (Yc.func Q0 fn38) (c_spec_ParseInt _ _ (Sl.Ok.elem (hs.okow (x := x4) (F := F4) Q1) hcc)) ?_
     clear hs; intro w hs
     refine Qm ?_
     refine WL.p Q0 (Yl.extract Q0 Q0) ?_
     refine WL.p Q0 (Yl.extract Q0 Q0) ?_
     refine Qa ?_
     refine Qa ?_
     refine WL.next ?_
     refine WC.seq ?_
     refine Qm ?_
     refine Qm ?_
     refine WL.split (d := 47) Q0 (fun h5 => ?_) (fun h5 => ?_)
     ·
      refine WL.run (d := 47) Q0 Q0 ?_
      refine Qm ?_
      refine WL.run (d := 47) Q0 Q0 ?_
      refine WL.callp hs Q0 (Yc.func Q0 fn39) (c_spec_l1In _ _ _ _) ?_
      clear hs; intro w hs
      refine WL.p Q0 (Yl.pickT Q0 Q0) ?_
      refine WL.next ?_
      refine WC.condS Q0 (fun h6 => ?_) (fun h6 => ?_)
      ·
       replace h6 := inR_true.1 h6
       refine WC.anyX (K := [box b2 _ _, ow q F]) mixed hs Q2 ?_
       clear hs; intro w hs
       refine WA.p (i := 0) Q0 Q6 Q6 Q6 Q0 (hs.only Q2) (fun w hs => Yl.fieldAddr fa27_0 Q0) ?_
       refine WA.p (i := 2) Q0 Q6 Q6 Q6 Q0 (hs.only Q2) (fun w hs => Yl.move Q0) ?_
       refine WA.p (i := 3) Q0 Q6 Q6 Q6 Q0 (hs.only Q2) (fun w hs => Yl.indexAddr (k := 0) slt48 Q0 Q0 (hs.okow (x := x4) (F := F4) Q1) Q0 (ha)) ?_
       refine WA.p (i := 4) Q0 Q6 Q6 Q6 Q0 (hs.only Q2) (fun w hs => Yl.loadC0 sca9 Q0 (Sl.Ok.at_ (hs.okow (x := x4) (F := F4) Q1) (by assumption)).2 Q0) ?_
       refine WA.p (i := 5) Q0 Q6 Q6 Q6 Q0 (hs.only Q2) (fun w hs => Yl.move Q0) ?_
       refine WA.p (i := 6) Q0 Q6 Q6 Q6 Q0 (hs.only Q2) (fun w hs => Yl.build bt36 Q0 Q4) ?_
       refine WA.dag' [(⟨1, 52, [], (fun _ v cs => v = Sl.v q ∧ cs = [])⟩, []), (⟨7, 58, [], (fun _ v cs => ∃ b, v = .slice (some ⟨b, 0, none⟩) 1 1 ∧ cs = [box b 36 ((Ph.enc ((⟨a, (parseI c)⟩ : TRule))))])⟩, [])] [false, false] [(0, _), (2, _), (3, _), (4, _), (5, _), (6, _), (7, _), (8, _), (12, _), (13, _), (14, _), (15, _), (16, _), (17, _), (18, _), (19, _), (20, _), (21, _), (24, _), (25, _), (26, _), (27, _), (28, _), (29, _), (30, _), (31, _), (32, _), (33, _), (34, _), (35, _), (36, _), (37, _), (38, _), (39, _), (40, _), (41, _), (42, _), (43, _), (44, _), (45, _), (46, _), (47, _), (48, _), (49, _), (50, _), (51, _), (53, _), (54, _), (55, _), (56, _), (57, _)] ⟨by rfl, by rfl, by rfl, by rfl, by rfl, by rfl, by rfl, by rfl, by rfl, by rfl, by rfl, by rfl, by rfl, by rfl, by rfl, by rfl, by rfl, by rfl, by rfl, by rfl, by rfl, by rfl, by rfl, by rfl, by rfl, by rfl, by rfl, by rfl, by rfl, by rfl, by rfl, by rfl, by rfl, by rfl, by rfl, by rfl, by rfl, by rfl, by rfl, by rfl, by rfl, by rfl, by rfl, by rfl, by rfl, by rfl, by rfl, by rfl, by rfl, by rfl, by rfl, trivial⟩ Q0 Q6 Q6 Q6 Q6 Q6 Q6 Q6 Q6 (fun _ hs => hs.only Q2) hs (fuel := 3) ⟨⟨local_const, ?_⟩, ⟨local_const, ?_⟩, trivial⟩ ?_
       ·
        clear hs
        intro w R hs
        simp only [List.cons_append, List.nil_append] at hs
        exact Gives.p' Q0 (Yl.loadB sca25 Q0 hs Q1 Q0) ⟨[], ⟨rfl, rfl⟩, hs⟩
       ·
        clear hs
        intro w R hs
        simp only [List.cons_append, List.nil_append] at hs
        exact Gives.rr' Q0 (Yr.buildSlice hs sll25 Q0 Q0 Q0 Q4 Q0) (fun _ _ ⟨b, hv, _, hs1⟩ => ⟨[box b 36 ((Ph.enc ((⟨a, (parseI c)⟩ : TRule))))], ⟨b, hv, rfl⟩, hs1⟩)
       clear hs
       rintro _ _ ⟨rfl, rfl⟩
       rintro _ _ ⟨b6, rfl, rfl⟩
       intro w hs
       simp only [List.cons_append, List.nil_append, cond_true, cond_false] at hs
       refine WA.r (i := 8) Q6 Q0 Q0 (Yr.append (s := q) (F := F) hs elt25 Q2 Q0 Q0 rfl (xs := [⟨a, parseI c⟩]) (hs.box_cells Q1) (by intro x hx; obtain rfl := List.mem_singleton.1 hx; exact ⟨(Sl.Ok.elem (hs.okow (x := x4) (F := F4) Q1) ha), parseI_wf _⟩) (by simp; unfold maxLen; omega) (by simp; omega)) (by rintro _ w ⟨s7, F7, rfl, hl7, hs⟩; exact hs.only Q2) ?_
       clear hs; rintro _ w ⟨s7, F7, rfl, hl7, hs⟩
       refine WA.p (i := 9) Q0 Q6 Q6 Q6 Q0 (hs.only Q2) (fun w hs => Yl.fieldAddr fa27_0 Q0) ?_
       refine WA.s (i := 10) Q6 Q0 (Yr.storeB hs Q0 Q0 Q0 Q5 Q3 Q0 (by exact szf25)) (by rintro _ w hs; exact hs.only Q2) ?_
       clear hs; rintro _ w hs
       refine WA.done Q6 ?_
       refine At.blocknormal ?_
       refine At.then_ ?_
       refine WC.region ?_
       refine Qm ?_
       refine WL.p Q0 (Yl.add Q0 Q0 (by have := (hs.okow (x := x3) (F := F3) Q1).lt; omega)) ?_
       refine Qa ?_
       refine WL.nil ?_
       refine At.roundC (k + 1, s7, F7) (hs.only Q2) ⟨by rfl, by rfl, by rfl, by rfl, trivial⟩ ⟨by rfl, trivial⟩ ?_ ?_
       ·
        show x3.l.length - (k + 1) < x3.l.length - k
        omega
       ·
        have e9 := ruleOf_two (x := d) (a := a) (b := c) (by rw [← hx4]; omega) (by rw [← hx4]; exact ha) (by rw [← hx4]; exact hcc)
        refine ⟨by omega, ?_⟩
        rw [hl7]
        show q.l ++ _ = sheetTo (x3.l.take (k + 1))
        rw [sheetTo_step hd (by rw [← hJ2]; omega), ← hJ2, e9, if_pos (by first | (simp_all [inR]; done) | (simp_all [inR]; omega))]; rfl
      ·
       replace h6 := inR_false.1 h6
       refine WC.skip ?_
       refine At.blocknormal ?_
       refine At.then_ ?_
       refine WC.region ?_
       refine Qm ?_
       refine WL.p Q0 (Yl.add Q0 Q0 (by have := (hs.okow (x := x3) (F := F3) Q1).lt; omega)) ?_
       refine Qa ?_
       refine WL.nil ?_
       refine At.roundC (k + 1, q, F) (hs.only Q2) ⟨by rfl, by rfl, by rfl, by rfl, trivial⟩ ⟨by rfl, trivial⟩ ?_ ?_
       ·
        show x3.l.length - (k + 1) < x3.l.length - k
        omega
       ·
        have e9 := ruleOf_two (x := d) (a := a) (b := c) (by rw [← hx4]; omega) (by rw [← hx4]; exact ha) (by rw [← hx4]; exact hcc)
        refine ⟨by omega, ?_⟩
        show q.l = sheetTo (x3.l.take (k + 1))
        rw [sheetTo_step hd (by rw [← hJ2]; omega), ← hJ2, e9, if_neg (by first | (simp_all [inR]; done) | (simp_all [inR]; omega))]; simp
     ·
      refine WL.skip (d := 47) Q0 Q0 Q0 Q0 ?_
      refine WL.skip (d := 47) Q0 Q0 Q0 Q0 ?_
      refine WL.p Q0 (Yl.pickF Q0 Q0) ?_
      refine WL.next ?_
      refine WC.condF Q0 ?_
      refine WC.skip ?_
      refine At.blocknormal ?_
      refine At.then_ ?_
      refine WC.region ?_
      refine Qm ?_
      refine WL.p Q0 (Yl.add Q0 Q0 (by have := (hs.okow (x := x3) (F := F3) Q1).lt; omega)) ?_
      refine Qa ?_
      refine WL.nil ?_
      refine At.roundC (k + 1, q, F) (hs.only Q2) ⟨by rfl, by rfl, by rfl, by rfl, trivial⟩ ⟨by rfl, trivial⟩ ?_ ?_
      ·
       show x3.l.length - (k + 1) < x3.l.length - k
       omega
      ·
       have e9 := ruleOf_two (x := d) (a := a) (b := c) (by rw [← hx4]; omega) (by rw [← hx4]; exact ha) (by rw [← hx4]; exact hcc)
       refine ⟨by omega, ?_⟩
       show q.l = sheetTo (x3.l.take (k + 1))
       rw [sheetTo_step hd (by rw [← hJ2]; omega), ← hJ2, e9, if_neg (by first | (simp_all [inR]; done) | (simp_all [inR]; omega))]; simp
  ·
   replace h2 := of_decide_eq_false h2
   refine WC.exit ?_
   refine At.thenexit ?_
   refine At.thenexit ?_
   refine At.blockexit ?_
   refine At.then_ ?_
   refine WC.seq ?_
   refine WL.p Q0 (Yl.loadAB agg27 Q0 hs Q1 Q0 Q0) ?_
   refine WL.s (Yr.storeB hs Q0 Q0 Q0 Q5 Q3 Q0 (by exact szf27)) ?_
   clear hs; rintro _ w hs
   refine WL.next ?_
   refine WC.ret ?_
   refine fin1c rfl agg27 Q0 hs Q1 Q0 ?_
   refine Ret.mk hs ?_
   refine ⟨⟨q⟩, rfl, ?_, ?_⟩
   · have e9 : sheetTo x3.l = q.l := by
       first
        | (rw [hJ2]; exact sheetTo_full (by rw [← hJ2]; omega))
        | (rw [hJ2, List.take_of_length_le Q7])
     simp_all [PSheet.lg]
   · exact (PSheet.join _ (hs.only (D := [ow q F]) Q2) ).fresh List.mem_cons_self
 ·
  replace h1 := of_decide_eq_false h1
  refine WL.skip (d := 16) Q0 Q0 Q0 Q0 ?_
  refine WL.skip (d := 16) Q0 Q0 Q0 Q0 ?_
  refine WL.skip (d := 16) Q0 Q0 Q0 Q0 ?_
  refine WL.skip (d := 16) Q0 Q0 Q0 Q0 ?_
  refine WL.p Q0 (Yl.pickF Q0 Q0) ?_
  refine WL.next ?_
  refine WC.condF Q0 ?_
  refine WC.exit ?_
  refine At.thenexit ?_
  refine At.thenexit ?_
  refine At.blockexit ?_
  refine At.then_ ?_
  refine WC.seq ?_
  refine WL.p Q0 (Yl.loadAB agg27 Q0 hs Q1 Q0 Q0) ?_
  refine WL.s (Yr.storeB hs Q0 Q0 Q0 Q5 Q3 Q0 (by exact szf27)) ?_
  clear hs; rintro _ w hs
  refine WL.next ?_
  refine WC.ret ?_
  refine fin1c rfl agg27 Q0 hs Q1 Q0 ?_
  refine Ret.mk hs ?_
  refine ⟨⟨q⟩, rfl, ?_, ?_⟩
  · have e9 : sheetTo x3.l = q.l := by
      first
       | (rw [hJ2]; exact sheetTo_full (by rw [← hJ2]; omega))
       | (rw [hJ2, List.take_of_length_le Q7])
    simp_all [PSheet.lg]
  · exact (PSheet.join _ (hs.only (D := [ow q F]) Q2) ).fresh List.mem_cons_self

theorem c_strings_Join (elems : (Sl Str)) (sep : Str) (w : World) (h_elems : Ph.ok w elems) (h1 : elems.l.length ≤ 140737488355328) (h2 : (joinS elems.l sep).length ≤ 140737488355328) : Calls Tryz.prog 41 [Sl.v elems, S sep].toArray w (RetP w (S (joinS elems.l sep))) := by
 exact join_calls Tryz.strings_Join_none Tryz.strings_Join elems sep w h_elems h1 h2

theorem c_impl_FormatSheet (x : PSheet) (w : World) (h_x : Ph.ok w x) (hb : x.lg.size ≤ 1048576) (ht_ : Tab10 Tryz.prog w) : Calls Tryz.prog 10 [.agg #[Sl.v x.rules]].toArray w (RetP w (S (fmtSheet x.lg))) := by
 have hw := h_x.rules.lt
 have hbz := hb; simp only [TSheet.size, lsz] at hbz
 have hfl := fmtSheet_len x.lg (fun r hr => (Sl.Ok.elems h_x.rules r hr).color)
 refine enterN 27 Tryz.func10 rfl rfl rfl ?_
 have hs := Sat.start w
 refine WC.seq ?_
 refine WL.r Q0 (Yr.box hs Q0 Q0) ?_
 clear hs; rintro _ w ⟨b1, rfl, hb, hs⟩; clear hb
 refine Qa ?_
 refine WL.next ?_
 refine WC.seq ?_
 refine WL.r Q0 (Yr.buildSlice hs sll48 Q0 Q0 Q0 Q4 Q0) ?_
 clear hs; rintro _ w ⟨b2, rfl, hb, hs⟩; clear hb
 refine Qa ?_
 refine WL.next ?_
 refine WC.seq' ?_
 refine WC.seq ?_
 refine WL.p Q0 (Yl.fieldAddr fa27_0 Q0) ?_
 refine WL.p Q0 (Yl.loadB sca25 Q0 hs Q1 Q0) ?_
 refine WL.p Q0 (Yl.len_sl slu25 Q0) ?_
 refine Qm ?_
 refine WL.next ?_
 refine WC.block ?_
 replace hs := Sat.boxow (l := ([] : List Str)) (hs.sel (D := [box b2 _ _]) Q2) rfl rfl (by simp) (ownL_mk_flat (by simp))
 try simp only [List.cons_append, List.nil_append] at hs
 refine WC.loopC (ι := Nat × Sl Str × List Nat) (fun ⟨k, s, F⟩ => x.rules.l.length - k) (fun ⟨k, s, F⟩ => [(10, I (k : Int)), (3, s.v)]) (fun ⟨k, s, F⟩ => [ow s F]) (fun ⟨k, s, F⟩ => k ≤ x.rules.l.length ∧ s.l = (x.rules.l.take k).map ruleText) [(0, _), (1, _), (2, _), (8, _), (9, _)] (0, ⟨[], some ⟨b2, 0, none⟩, 0⟩, [b2]) (hs.sel (D := [ow (⟨[], some ⟨b2, 0, none⟩, 0⟩ : Sl Str) [b2]]) Q2) ⟨by rfl, by rfl, by rfl, by rfl, by rfl, trivial⟩ ⟨by rfl, by rfl, trivial⟩ ?_ ?_
 ·
  exact ⟨Nat.zero_le _, rfl⟩
 clear hs; rintro ⟨k, s, F⟩ w ⟨hJ1, hJ2⟩ hs
 simp only [List.cons_append, List.nil_append] at hs
 refine WC.seq ?_
 refine WL.p Q0 (Yl.lss Q0 Q0) ?_
 refine WL.next ?_
 refine WC.seq' ?_
 refine WC.condS Q0 (fun h1 => ?_) (fun h1 => ?_)
 ·
  replace h1 := of_decide_eq_true h1
  obtain ⟨d, hd⟩ := exists_get (l := x.rules.l) (k := k) Q7
  have hdl := lsum_le (f := TRule.size) (List.mem_of_getElem? hd)
  have hil := itoa_len13 (Sl.Ok.elem h_x.rules hd).color
  refine WC.skipn ?_
  refine WC.seq' ?_
  refine WC.block ?_
  refine WC.seq ?_
  refine WL.p Q0 (Yl.indexAddr slt25 Q0 Q0 (Ph.old h_x.rules hs) Q0 (hd)) ?_
  refine WL.p Q0 (Yl.loadA agg36 Q0 (Sl.Ok.at_ (Ph.old h_x.rules hs) (by assumption)).2 Q0) ?_
  refine WL.r Q0 (Yr.alloc hs zt36) ?_
  clear hs; rintro _ w ⟨b3, rfl, hb, hs⟩; clear hb
  refine WL.s (Yr.storeB hs Q0 Q0 Q0 Q5 Q3 Q0 (by exact szf36)) ?_
  clear hs; rintro _ w hs
  refine WL.next ?_
  refine WC.anyX (K := [ow s F]) mixed hs Q2 ?_
  clear hs; intro w hs
  refine WA.p (i := 0) Q0 Q6 Q6 Q6 Q0 (hs.only Q2) (fun w hs => Yl.move Q0) ?_
  refine WA.p (i := 1) Q0 Q6 Q6 Q6 Q0 (hs.only Q2) (fun w hs => Yl.fieldAddr fa36_0 Q0) ?_
  refine WA.p (i := 2) Q0 Q6 Q6 Q6 Q0 (hs.only Q2) (fun w hs => Yl.loadB sca9 Q0 hs Q1 Q0) ?_
  refine WA.p (i := 3) Q0 Q6 Q6 Q6 Q0 (hs.only Q2) (fun w hs => Yl.cat Q0 Q0 (by simp only [List.length_append, List.length_cons, List.length_nil, TRule.size] at *; omega)) ?_
  refine WA.p (i := 4) Q0 Q6 Q6 Q6 Q0 (hs.only Q2) (fun w hs => Yl.fieldAddr fa36_1 Q0) ?_
  refine WA.p (i := 5) Q0 Q6 Q6 Q6 Q0 (hs.only Q2) (fun w hs => Yl.loadB sca3 Q0 hs Q1 Q0) ?_
  refine WA.callp2 (i := 6) hs (fun _ hs => hs.only Q2) Q6 Q0 Q0 (Yc.func Q0 fn40) (c_impl_FormatInt _ _ (Sl.Ok.elem (Ph.old h_x.rules hs) hd).color (by first | assumption | exact Sat.tab hs (by assumption))) ?_
  clear hs; intro w hs
  refine WA.p (i := 7) Q0 Q6 Q6 Q6 Q0 (hs.only Q2) (fun w hs => Yl.cat Q0 Q0 (by simp only [List.length_append, List.length_cons, List.length_nil, TRule.size] at *; omega)) ?_
  refine WA.r (i := 8) Q6 Q0 Q0 (Yr.buildSlice hs sll48 Q0 Q0 Q0 Q4 Q0) (by rintro _ w ⟨b4, rfl, hb, hs⟩; exact hs.only Q2) ?_
  clear hs; rintro _ w ⟨b4, rfl, hb, hs⟩; clear hb
  refine WA.r (i := 9) Q6 Q0 Q0 (Yr.append (s := s) (F := F) hs elt48 Q2 Q0 Q0 rfl (xs := [ruleText d]) (hs.box_cells Q1) (by intro x hx; obtain rfl := List.mem_singleton.1 hx; show WfS _; unfold WfS ruleText; simp only [List.length_append, List.length_cons, List.length_nil, TRule.size] at *; omega) (by rw [hJ2]; simp; unfold maxLen; omega) (by rw [hJ2]; simp; omega)) (by rintro _ w ⟨s5, F5, rfl, hl5, hs⟩; exact hs.only Q2) ?_
  clear hs; rintro _ w ⟨s5, F5, rfl, hl5, hs⟩
  refine WA.p (i := 10) Q0 Q6 Q6 Q6 Q0 (hs.only Q2) (fun w hs => Yl.assign Q0) ?_
  refine WA.done Q6 ?_
  refine At.blocknormal ?_
  refine At.then_ ?_
  refine WC.region ?_
  refine WL.p Q0 (Yl.add Q0 Q0 (by simp only [List.length_append, List.length_cons, List.length_nil, TRule.size] at *; omega)) ?_
  refine Qm ?_
  refine WL.nil ?_
  refine At.roundC (k + 1, s5, F5) (hs.only Q2) ⟨by rfl, by rfl, by rfl, by rfl, by rfl, trivial⟩ ⟨by rfl, by rfl, trivial⟩ ?_ ?_
  ·
   show x.rules.l.length - (k + 1) < x.rules.l.length - k
   omega
  ·
   exact ⟨by omega, by rw [hl5, hJ2]; exact map_step hd⟩
 ·
  replace h1 := of_decide_eq_false h1
  refine WC.exit ?_
  refine At.thenexit ?_
  refine At.thenexit ?_
  refine At.blockexit ?_
  refine At.then_ ?_
  refine WC.seq ?_
  refine Qm ?_
  refine WL.callp hs Q0 (Yc.func Q0 fn41) (c_strings_Join _ _ _ (hs.okow (x := s) (F := F) Q1) (by rw [hJ2, show k = x.rules.l.length from by omega, List.take_length, List.length_map]; omega) (by rw [hJ2, show k = x.rules.l.length from by omega, List.take_length]; show (fmtSheet x.lg).length ≤ _; omega)) ?_
  clear hs; intro w hs
  refine Qa ?_
  refine WL.next ?_
  refine WC.ret ?_
  refine fin1' rfl Q0 ?_
  refine RetP.mk hs ?_
  rw [hJ2, show k = x.rules.l.length from by omega, List.take_length]; rfl

theorem c_spec_l7Sheets (c : Nat) (b_ : Sl UInt8) (w : World)   (h_c : CurAt 93 b_ c w) (hb_c : CurB w b_ c) : Calls Tryz.prog 42 [bp c 0].toArray w (RetD 93 b_ c w (fun v w' => ∃ (l : Sl PSheet), v = l.v ∧ (True) ∧ (lsz TSheet.size (l.l.map PSheet.lg) ≤ 200) ∧ Fresh w l w')) := by
 refine enterN 19 Tryz.func42 rfl rfl rfl ?_
 have hs := Sat.startC h_c
 refine WC.seq ?_
 refine Qa ?_
 refine WL.next ?_
 refine WC.seq ?_
 refine WL.r Q0 (Yr.buildSlice hs sll30 Q0 Q0 Q0 Q4 Q0) ?_
 clear hs; rintro _ w ⟨b1, rfl, hb, hs⟩; clear hb
 refine Qa ?_
 refine WL.next ?_
 refine WC.seq' ?_
 refine WC.seq ?_
 refine Qm ?_
 refine WL.calld hs (T := 93) (b := b_) (c := c) Q2 Q0 (Yc.func Q0 fn46) (c_spec_l1Below c b_ _ _ (hs.cur Q1) (Apart.now hb_c hs)) ?_
 clear hs; intro v w ho hR hs
 obtain ⟨x2, rfl, hokx2, hx2, hf2⟩ := hR
 clear ho hf2
 replace hx2 : 0 ≤ x2 ∧ x2 < 3 := ⟨hx2.1, hx2.2.2 (by decide)⟩
 refine Qa ?_
 refine WL.next ?_
 refine WC.block ?_
 replace hs := Sat.boxow (l := ([] : List PSheet)) (hs.sel (D := [box b1 _ _]) Q2) rfl rfl (by simp) (show ownL _ [] [] from rfl)
 try simp only [List.cons_append, List.nil_append] at hs
 refine WC.loopC (ι := Int × Sl PSheet × List Nat) (fun ⟨m, q, F⟩ => m.toNat) (fun ⟨m, q, F⟩ => [(4, I m), (3, q.v)]) (fun ⟨m, q, F⟩ => [ow q F]) (fun ⟨m, q, F⟩ => 0 ≤ m ∧ m ≤ 2 ∧ (lsz TSheet.size (q.l.map PSheet.lg) : Int) ≤ (2 - m) * 73) [(0, _), (2, _)] (_, ⟨[], some ⟨b1, 0, none⟩, 0⟩, [b1]) (hs.sel (D := [ow (⟨[], some ⟨b1, 0, none⟩, 0⟩ : Sl PSheet) [b1]]) Q2) ⟨by rfl, by rfl, trivial⟩ ⟨by rfl, by rfl, trivial⟩ ?_ ?_
 ·
  exact ⟨by omega, by omega, by simp [lsz, lsum]; omega⟩
 clear hs; rintro ⟨m, q, F⟩ w ⟨hJ1, hJ2, hJ3⟩ hs
 simp only [List.cons_append, List.nil_append] at hs
 refine WC.seq' ?_
 refine WC.seq ?_
 refine Qm ?_
 refine WL.p Q0 (Yl.gtr Q0 Q0) ?_
 refine WL.next ?_
 refine WC.condS Q0 (fun h1 => ?_) (fun h1 => ?_)
 ·
  replace h1 := of_decide_eq_true h1
  have hql : q.l.length ≤ 200 := by simp only [lsz, List.length_map] at hJ3; omega
  refine WC.skipn ?_
  refine WC.seq' ?_
  refine WC.block ?_
  refine WC.region ?_
  refine Qm ?_
  refine Qm ?_
  refine WL.calld hs (T := 93) (b := b_) (c := c) Q2 Q0 (Yc.func Q0 fn27) (c_spec_l7Text c b_ _ (hs.cur Q1) (Apart.now hb_c hs)) ?_
  clear hs; intro v w ho hR hs
  obtain ⟨x3, rfl, hokx3, hx3, hf3⟩ := hR
  clear ho hf3
  refine WL.call hs Q0 (Yc.func Q0 fn9) (c_spec_ParseSheet _ _ (Flat.any hokx3) Q7) ?_
  have hs0 := hs; clear hs; intro v w hb hR hs; clear hs
  obtain ⟨x4, rfl, hx4, hf4⟩ := hR
  obtain ⟨F4, hs⟩ := hf4.sat hs0 hb; clear hs0 hf4
  have hz4 := sheet_size_of hx4
  refine WL.r Q0 (Yr.buildSlice hs sll30 Q0 Q0 Q0 Q4 Q0) ?_
  clear hs; rintro _ w ⟨b5, rfl, hb, hs⟩; clear hb
  refine WL.r Q0 (Yr.appendE (s := q) (F := F) (u := x4) (G := F4) hs elt30 Q2 Q0 Q0 (hs.box_cells Q1) (by unfold maxLen; omega) Q7) ?_
  clear hs; rintro _ w ⟨s6, F6, rfl, hl6, hs⟩
  refine Qa ?_
  refine WL.nil ?_
  refine At.blocknormal ?_
  refine At.then_ ?_
  refine WC.region ?_
  refine Qm ?_
  refine WL.p Q0 (Yl.sub_ Q0 Q0 Q7) ?_
  refine Qa ?_
  refine WL.nil ?_
  refine At.roundC (_, s6, F6) (hs.only Q2) ⟨by rfl, by rfl, trivial⟩ ⟨by rfl, by rfl, trivial⟩ ?_ ?_
  ·
   show (m - 1).toNat < m.toNat
   omega
  ·
   refine ⟨by omega, by omega, ?_⟩
   rw [hl6]; simp only [List.map_append, List.map_cons, List.map_nil, lsz_app, lsz_one]; omega
 ·
  replace h1 := of_decide_eq_false h1
  refine WC.exit ?_
  refine At.thenexit ?_
  refine At.thenexit ?_
  refine At.blockexit ?_
  refine At.then_ ?_
  refine WC.seq ?_
  refine Qm ?_
  refine Qa ?_
  refine WL.next ?_
  refine WC.ret ?_
  refine fin1' rfl Q0 ?_
  refine RetD.mk hs Q1 ?_
  refine ⟨q, rfl, trivial, ?_, ?_⟩
  ·
   omega
  ·
   exact hs.freshD (x := q) (F := F) Q2

theorem c_spec_DrawColorOf (code : (Sl UInt8)) (w : World) (h_code : Ph.ok w code)  : Calls Tryz.prog 11 [Sl.v code].toArray w (Ret w (fun v w' => ∃ (l : Sl PSheet) (nm : Str), v = .tuple #[l.v, S nm] ∧ (Ph.ok w' nm) ∧ (lsz TSheet.size (l.l.map PSheet.lg) ≤ 200 ∧ nm.length ≤ 4) ∧ Fresh w l w')) := by
 refine enterN 14 Tryz.func11 rfl rfl rfl ?_
 have hs := Sat.start w
 refine WC.seq ?_
 refine Qa ?_
 refine Qa ?_
 refine WL.next ?_
 refine WC.seq ?_
 refine Qm ?_
 refine WL.calln hs Q0 (Yc.func Q0 fn25) (c_spec_l1New _ _ (Ph.old h_code hs)) ?_
 clear hs; intro c1 w hs
 refine Qa ?_
 refine WL.next ?_
 refine WC.seq ?_
 refine Qm ?_
 refine WL.calld hs (T := 93) (b := code) (c := c1) Q2 Q0 (Yc.func Q0 fn42) (c_spec_l7Sheets c1 code _ (hs.cur Q1) (Apart.new (by first | assumption) hs Q1)) ?_
 clear hs; intro v w ho hR hs
 obtain ⟨x2, rfl, _, hx2, hf2⟩ := hR
 obtain ⟨F2, hs⟩ := hs.addF ho hf2
 clear ho hf2
 refine Qa ?_
 refine WL.next ?_
 refine WC.seq ?_
 refine Qm ?_
 refine Qm ?_
 refine WL.r Q0 (Yr.buildSlice hs sll48 Q0 Q0 Q0 Q4 Q0) ?_
 clear hs; rintro _ w ⟨b3, rfl, hb, hs⟩; clear hb
 replace hs := Sat.boxow (l := ([([112] : Str), ([98] : Str), ([112, 97, 103, 101] : Str), ([120] : Str)] : List Str)) (hs.sel (D := [box b3 _ _]) Q2) rfl rfl (by decide) (ownL_mk_flat (lit_str Q0))
 try simp only [List.cons_append, List.nil_append] at hs
 refine WL.calld hs (T := 93) (b := code) (c := c1) Q2 Q0 (Yc.func Q0 fn28) (c_spec_l1Str c1 code (⟨[([112] : Str), ([98] : Str), ([112, 97, 103, 101] : Str), ([120] : Str)], some ⟨b3, 0, none⟩, 4⟩ : Sl Str) _ (Apart.own (s := (⟨[([112] : Str), ([98] : Str), ([112, 97, 103, 101] : Str), ([120] : Str)], some ⟨b3, 0, none⟩, 4⟩ : Sl Str)) (F := [b3]) hs Q2) (by exact Nat.succ_pos _) (hs.cur Q1) (Apart.new (by first | assumption) hs Q1)) ?_
 clear hs; intro v w ho hR hs
 obtain ⟨x4, rfl, hokx4, hx4, hf4⟩ := hR
 clear ho hf4
 replace hx4 : x4 ∈ ([([112] : Str), ([98] : Str), ([112, 97, 103, 101] : Str), ([120] : Str)] : List Str) := hx4
 have hn4 := mem_len 4 hx4 Q0
 refine Qa ?_
 refine Qa ?_
 refine WL.next ?_
 refine WC.ret ?_
 refine fin2' rfl Q0 Q0 ?_
 refine Ret.mk hs ?_
 refine ⟨x2, _, rfl, (by first | exact (Flat.any hokx4) | trivial | assumption | exact Flat.any (by assumption) | exact ⟨by omega, by omega⟩ | (show WfS _; unfold WfS; omega) | (show WfS _; unfold WfS; simp only [List.length_append, List.length_cons, List.length_nil] at *; omega) | (refine Ph.old ?_ hs; assumption)), ?_, ?_⟩
 ·
  repeat' apply And.intro
  all_goals (try dsimp only)
  all_goals first | trivial | assumption | omega | ((try simp only [List.length_append, List.length_cons, List.length_nil, lsz_app, lsz_one, lsz_cons, lsz_nil, TAddr.size, TResponse.size, TRequest.size, TPolicy.size, TEntry.size, TCache.size, strsz, TLine.size, TSent.size, TServer.size, TFile.size, List.map_append, List.map_cons, List.map_nil, PServer.lg, PPolicy.lg, PCache.lg] at *); first | omega | assumption)
 ·
  exact hs.fresh (x := x2) (F := F2) Q1

theorem c_impl_ColorOf (l : (Sl PSheet)) (name : Str) (w : World) (h_l : Ph.ok w l)  : Calls Tryz.prog 14 [Sl.v l, S name].toArray w (RetP w (I (colorOf name l.l))) := by
 have hw := h_l.lt
 refine enterN 45 Tryz.func14 rfl rfl rfl ?_
 have hs := Sat.start w
 refine WC.seq ?_
 refine Qa ?_
 refine WL.next ?_
 refine WC.seq' ?_
 refine WC.seq ?_
 refine Qm ?_
 refine WL.p Q0 (Yl.len_sl slu30 Q0) ?_
 refine WL.p Q0 (Yl.sub_ Q0 Q0 Q7) ?_
 refine Qa ?_
 refine WL.next ?_
 refine WC.block ?_
 refine WC.loopC (ι := Nat) (fun k => k) (fun k => [(5, I ((k : Int) - 1))]) (fun _ => []) (fun k => k ≤ l.l.length ∧ colSR name l.l.reverse = colSR name (l.l.take k).reverse) [(0, _), (1, _)] l.l.length (hs) ⟨by rfl, by rfl, trivial⟩ ⟨by rfl, trivial⟩ ?_ ?_
 ·
  exact ⟨Nat.le_refl _, by rw [List.take_length]⟩
 clear hs; rintro k w ⟨hJ1, hJ2⟩ hs
 simp only [List.nil_append] at hs
 have hd2x : ∃ d : PSheet, k ≠ 0 → l.l[k - 1]? = some d := by
  by_cases h9 : k = 0
  · exact ⟨⟨⟨[], none, 0⟩⟩, fun h => absurd h9 h⟩
  · exact ⟨l.l[k - 1]'Q7, fun _ => List.getElem?_eq_getElem Q7⟩
 obtain ⟨d, hd⟩ := hd2x
 refine WC.seq' ?_
 refine WC.seq ?_
 refine Qm ?_
 refine WL.p Q0 (Yl.geq Q0 Q0) ?_
 refine WL.next ?_
 refine WC.condS Q0 (fun h1 => ?_) (fun h1 => ?_)
 ·
  replace h1 := of_decide_eq_true h1
  have hwd := (Sl.Ok.elem h_l (hd Q7)).rules.lt
  refine WC.skipn ?_
  refine WC.seq' ?_
  refine WC.block ?_
  refine WC.seq ?_
  refine Qm ?_
  refine Qm ?_
  refine WL.p Q0 (Yl.indexAddr slt30 Q0 Q0 (Ph.old h_l hs) (by first | rfl | omega) ((hd Q7))) ?_
  refine WL.p Q0 (Yl.fieldAddr fa27_0 Q0) ?_
  refine WL.p Q0 (Yl.loadC sca25 Q0 (Sl.Ok.at_ (Ph.old h_l hs) ((hd Q7))).2 Q0) ?_
  refine WL.p Q0 (Yl.len_sl slu25 Q0) ?_
  refine WL.p Q0 (Yl.sub_ Q0 Q0 Q7) ?_
  refine Qa ?_
  refine WL.next ?_
  refine WC.block ?_
  refine WC.loopC (ι := Nat) (fun m => m) (fun m => [(6, I ((m : Int) - 1))]) (fun _ => []) (fun m => m ≤ d.rules.l.length ∧ colR name d.rules.l.reverse = colR name (d.rules.l.take m).reverse) [(0, _), (1, _), (5, _), (11, _)] d.rules.l.length (hs) ⟨by rfl, by rfl, by rfl, by rfl, trivial⟩ ⟨by rfl, trivial⟩ ?_ ?_
  ·
   exact ⟨Nat.le_refl _, by rw [List.take_length]⟩
  clear hs; rintro m w ⟨hI1, hI2⟩ hs
  simp only [List.nil_append] at hs
  have hd3x : ∃ x : TRule, m ≠ 0 → d.rules.l[m - 1]? = some x := by
   by_cases h9 : m = 0
   · exact ⟨⟨[], 0⟩, fun h => absurd h9 h⟩
   · exact ⟨d.rules.l[m - 1]'Q7, fun _ => List.getElem?_eq_getElem Q7⟩
  obtain ⟨x, hx⟩ := hd3x
  refine WC.seq' ?_
  refine WC.seq ?_
  refine Qm ?_
  refine WL.p Q0 (Yl.geq Q0 Q0) ?_
  refine WL.next ?_
  refine WC.condS Q0 (fun h2 => ?_) (fun h2 => ?_)
  ·
   replace h2 := of_decide_eq_true h2
   refine WC.skipn ?_
   refine WC.seq' ?_
   refine WC.block ?_
   refine WC.seq ?_
   refine Qm ?_
   refine Qm ?_
   refine WL.p Q0 (Yl.indexAddr slt30 Q0 Q0 (Ph.old h_l hs) (by first | rfl | omega) ((hd Q7))) ?_
   refine WL.p Q0 (Yl.fieldAddr fa27_0 Q0) ?_
   refine WL.p Q0 (Yl.loadC sca25 Q0 (Sl.Ok.at_ (Ph.old h_l hs) ((hd Q7))).2 Q0) ?_
   refine Qm ?_
   refine WL.p Q0 (Yl.indexAddr slt25 Q0 Q0 (Ph.old (Sl.Ok.elem h_l (hd Q7)).rules hs) (by first | rfl | omega) ((hx Q7))) ?_
   refine WL.p Q0 (Yl.fieldAddr fa36_0 Q0) ?_
   refine WL.p Q0 (Yl.loadC sca9 Q0 (Sl.Ok.at_ (Ph.old (Sl.Ok.elem h_l (hd Q7)).rules hs) ((hx Q7))).2 Q0) ?_
   refine Qm ?_
   refine WL.p Q0 (Yl.eqs Q0 Q0) ?_
   refine WL.next ?_
   refine WC.condS Q0 (fun h3 => ?_) (fun h3 => ?_)
   ·
    replace h3 := of_decide_eq_true h3
    refine WC.seq ?_
    refine Qm ?_
    refine Qm ?_
    refine WL.p Q0 (Yl.indexAddr slt30 Q0 Q0 (Ph.old h_l hs) (by first | rfl | omega) ((hd Q7))) ?_
    refine WL.p Q0 (Yl.fieldAddr fa27_0 Q0) ?_
    refine WL.p Q0 (Yl.loadC sca25 Q0 (Sl.Ok.at_ (Ph.old h_l hs) ((hd Q7))).2 Q0) ?_
    refine Qm ?_
    refine WL.p Q0 (Yl.indexAddr slt25 Q0 Q0 (Ph.old (Sl.Ok.elem h_l (hd Q7)).rules hs) (by first | rfl | omega) ((hx Q7))) ?_
    refine WL.p Q0 (Yl.fieldAddr fa36_1 Q0) ?_
    refine WL.p Q0 (Yl.loadC sca3 Q0 (Sl.Ok.at_ (Ph.old (Sl.Ok.elem h_l (hd Q7)).rules hs) ((hx Q7))).2 Q0) ?_
    refine Qa ?_
    refine WL.next ?_
    refine WC.ret ?_
    refine At.blockret ?_
    refine At.thenret ?_
    refine At.thenret ?_
    refine At.blockret ?_
    refine At.blockret ?_
    refine At.thenret ?_
    refine At.thenret ?_
    refine At.blockret ?_
    refine At.thenret ?_
    refine fin1' rfl Q0 ?_
    refine RetP.mk hs ?_
    rw [colorOf, hJ2, colSR_some Q7 (hd Q7) (hI2.trans (colR_yes Q7 (hx Q7) (by assumption)))]; rfl
   ·
    replace h3 := of_decide_eq_false h3
    refine WC.skip ?_
    refine At.blocknormal ?_
    refine At.then_ ?_
    refine WC.region ?_
    refine Qm ?_
    refine WL.p Q0 (Yl.sub_ Q0 Q0 Q7) ?_
    refine Qa ?_
    refine WL.nil ?_
    refine At.roundC (m - 1) (hs.only Q2) ⟨by rfl, by rfl, by rfl, by rfl, trivial⟩ ⟨by exact congrArg (fun z => some (I z)) Q7, trivial⟩ ?_ ?_
    ·
     omega
    ·
     exact ⟨by omega, by rw [hI2]; exact colR_no Q7 (hx Q7) (by assumption)⟩
  ·
   replace h2 := of_decide_eq_false h2
   refine WC.exit ?_
   refine At.thenexit ?_
   refine At.thenexit ?_
   refine At.blockexit ?_
   refine At.blocknormal ?_
   refine At.then_ ?_
   refine WC.region ?_
   refine Qm ?_
   refine WL.p Q0 (Yl.sub_ Q0 Q0 Q7) ?_
   refine Qa ?_
   refine WL.nil ?_
   refine At.roundC (k - 1) (hs.only Q2) ⟨by rfl, by rfl, trivial⟩ ⟨by exact congrArg (fun z => some (I z)) Q7, trivial⟩ ?_ ?_
   ·
    omega
   ·
    exact ⟨by omega, by rw [hJ2]; exact colSR_none Q7 (hd Q7) (by rw [hI2, show m = 0 from by omega]; rfl)⟩
 ·
  replace h1 := of_decide_eq_false h1
  refine WC.exit ?_
  refine At.thenexit ?_
  refine At.thenexit ?_
  refine At.blockexit ?_
  refine At.then_ ?_
  refine WC.seq ?_
  refine Qa ?_
  refine WL.next ?_
  refine WC.ret ?_
  refine fin1' rfl Q0 ?_
  refine RetP.mk hs ?_
  rw [colorOf, hJ2, show k = 0 from by omega]; rfl

theorem c_slices_Sort___string_string_ (x : (Sl Str)) (w : World) (F : List Nat) (hF : Own.own w x F) (hn : F.Nodup)  (hlen : x.l.length ≤ 4611686018427387903) : Calls Tryz.prog 43 [Sl.v x].toArray w (RetM w x F (.tuple #[]) (fun a' => a'.l = x.l.mergeSort leS)) := by
 exact sortS_calls Tryz.slices_Sort_string Tryz.slices_Sort_string_none x F w hF hn hlen

theorem c_slices_Compact___string_string_ (s : (Sl Str)) (w : World) (F : List Nat) (hF : Own.own w s F) (hn : F.Nodup)   : Calls Tryz.prog 44 [Sl.v s].toArray w (RetO w F (fun s' : Sl Str => s'.l = Lib.compact s.l)) := by
 exact compactS_calls Tryz.slices_Compact_string Tryz.slices_Compact_string_empty s F w hF hn

theorem c_impl_JoinSheets (l : (Sl PSheet)) (w : World) (h_l : Ph.ok w l) (hb : lsz TSheet.size (l.l.map PSheet.lg) ≤ 1048576) : Calls Tryz.prog 12 [Sl.v l].toArray w (Ret w (fun v w' => ∃ x : PSheet, v = .agg (Ph.enc x).toArray ∧ x.lg = joinT (l.l.map PSheet.lg) ∧ Fresh w x w')) := by
 have hw := h_l.lt
 refine enterN 54 Tryz.func12 rfl rfl rfl ?_
 have hs := Sat.start w
 refine WC.seq ?_
 refine WL.r Q0 (Yr.alloc hs zt27) ?_
 clear hs; rintro _ w ⟨b1, rfl, hb, hs⟩; clear hb
 refine WL.next ?_
 refine WC.seq ?_
 refine WL.r Q0 (Yr.buildSlice hs sll48 Q0 Q0 Q0 Q4 Q0) ?_
 clear hs; rintro _ w ⟨b2, rfl, hb, hs⟩; clear hb
 refine Qa ?_
 refine WL.next ?_
 refine WC.seq' ?_
 refine WC.seq ?_
 refine Qm ?_
 refine WL.p Q0 (Yl.len_sl slu30 Q0) ?_
 refine Qm ?_
 refine WL.next ?_
 refine WC.block ?_
 replace hs := Sat.boxow (l := ([] : List Str)) (hs.sel (D := [box b2 _ _]) Q2) rfl rfl (by simp) (ownL_mk_flat (by simp))
 try simp only [List.cons_append, List.nil_append] at hs
 refine WC.loopC (ι := Nat × Sl Str × List Nat) (fun ⟨k, s, F⟩ => l.l.length - k) (fun ⟨k, s, F⟩ => [(14, I (k : Int)), (3, s.v)]) (fun ⟨k, s, F⟩ => [ow s F]) (fun ⟨k, s, F⟩ => k ≤ l.l.length ∧ s.l = namesT ((l.l.take k).map PSheet.lg)) [(0, _), (2, _), (12, _), (13, _)] (0, ⟨[], some ⟨b2, 0, none⟩, 0⟩, [b2]) (hs.sel (D := [ow (⟨[], some ⟨b2, 0, none⟩, 0⟩ : Sl Str) [b2]]) Q2) ⟨by rfl, by rfl, by rfl, by rfl, trivial⟩ ⟨by rfl, by rfl, trivial⟩ ?_ ?_
 ·
  exact ⟨Nat.zero_le _, rfl⟩
 clear hs; rintro ⟨k, s, F⟩ w ⟨hJ1, hJ2⟩ hs
 simp only [List.cons_append, List.nil_append] at hs
 have hsl : s.l.length ≤ 1048576 := by rw [hJ2]; have h9 := namesT_len ((l.l.take k).map PSheet.lg); have h8 := lsz_take TSheet.size (l.l.map PSheet.lg) k; rw [← List.map_take] at h8; omega
 refine WC.seq ?_
 refine WL.p Q0 (Yl.lss Q0 Q0) ?_
 refine WL.next ?_
 refine WC.seq' ?_
 refine WC.condS Q0 (fun h1 => ?_) (fun h1 => ?_)
 ·
  replace h1 := of_decide_eq_true h1
  obtain ⟨d, hd⟩ := exists_get (l := l.l) (k := k) Q7
  have hdr := names_room hd hb; rw [← hJ2] at hdr
  have h_d := (Sl.Ok.elem h_l hd).rules
  refine WC.skipn ?_
  refine WC.seq' ?_
  refine WC.block ?_
  refine WC.seq ?_
  refine WL.p Q0 (Yl.indexAddr slt30 Q0 Q0 (Ph.old h_l hs) Q0 (hd)) ?_
  refine WL.p Q0 (Yl.loadA agg27 Q0 (Sl.Ok.at_ (Ph.old h_l hs) (by assumption)).2 Q0) ?_
  refine WL.r Q0 (Yr.alloc hs zt27) ?_
  clear hs; rintro _ w ⟨b3, rfl, hb, hs⟩; clear hb
  refine WL.s (Yr.storeB hs Q0 Q0 Q0 Q5 Q3 Q0 (by exact szf27)) ?_
  clear hs; rintro _ w hs
  refine WL.next ?_
  refine WC.seq ?_
  refine WL.p Q0 (Yl.fieldAddr fa27_0 Q0) ?_
  refine WL.p Q0 (Yl.loadB sca25 Q0 hs Q1 Q0) ?_
  refine WL.p Q0 (Yl.len_sl slu25 Q0) ?_
  refine Qm ?_
  refine WL.next ?_
  refine WC.block ?_
  refine WC.loopC (ι := Nat × Sl Str × List Nat) (fun ⟨m, z, G⟩ => d.rules.l.length - m) (fun ⟨m, z, G⟩ => [(21, I (m : Int)), (3, z.v)]) (fun ⟨m, z, G⟩ => [ow z G]) (fun ⟨m, z, G⟩ => m ≤ d.rules.l.length ∧ z.l = s.l ++ (d.rules.l.take m).map TRule.name) [(0, _), (2, _), (5, _), (12, _), (13, _), (14, _), (15, _), (19, _), (20, _)] (0, s, F) (hs.sel (D := [ow s F]) Q2) ⟨by rfl, by rfl, by rfl, by rfl, by rfl, by rfl, by rfl, by rfl, by rfl, trivial⟩ ⟨by rfl, by rfl, trivial⟩ ?_ ?_
  ·
   exact ⟨Nat.zero_le _, by simp⟩
  clear hs; rintro ⟨m, z, G⟩ w ⟨hI1, hI2⟩ hs
  simp only [List.cons_append, List.nil_append] at hs
  refine WC.seq ?_
  refine WL.p Q0 (Yl.lss Q0 Q0) ?_
  refine WL.next ?_
  refine WC.seq' ?_
  refine WC.condS Q0 (fun h2 => ?_) (fun h2 => ?_)
  ·
   replace h2 := of_decide_eq_true h2
   obtain ⟨e, he⟩ := exists_get (l := d.rules.l) (k := m) Q7
   have hzl : z.l.length = s.l.length + m := by rw [hI2]; simp; omega
   refine WC.skipn ?_
   refine WC.seq' ?_
   refine WC.block ?_
   refine WC.seq ?_
   refine WL.p Q0 (Yl.indexAddr slt25 Q0 Q0 (Ph.old (Sl.Ok.elem h_l hd).rules hs) Q0 (he)) ?_
   refine WL.p Q0 (Yl.loadA agg36 Q0 (Sl.Ok.at_ (Ph.old (Sl.Ok.elem h_l hd).rules hs) (by assumption)).2 Q0) ?_
   refine WL.r Q0 (Yr.alloc hs zt36) ?_
   clear hs; rintro _ w ⟨b4, rfl, hb, hs⟩; clear hb
   refine WL.s (Yr.storeB hs Q0 Q0 Q0 Q5 Q3 Q0 (by exact szf36)) ?_
   clear hs; rintro _ w hs
   refine WL.next ?_
   refine WC.region ?_
   refine Qm ?_
   refine WL.p Q0 (Yl.fieldAddr fa36_0 Q0) ?_
   refine WL.p Q0 (Yl.loadB sca9 Q0 hs Q1 Q0) ?_
   refine WL.r Q0 (Yr.buildSlice hs sll48 Q0 Q0 Q0 Q4 Q0) ?_
   clear hs; rintro _ w ⟨b5, rfl, hb, hs⟩; clear hb
   refine WL.r Q0 (Yr.append (s := z) (F := G) hs elt48 Q2 Q0 Q0 rfl (xs := [e.name]) (hs.box_cells Q1) (by intro x hx; obtain rfl := List.mem_singleton.1 hx; exact (Sl.Ok.elem (Ph.old h_d hs) he).name) (by simp; unfold maxLen; omega) (by simp; omega)) ?_
   clear hs; rintro _ w ⟨s6, F6, rfl, hl6, hs⟩
   refine Qa ?_
   refine WL.nil ?_
   refine At.blocknormal ?_
   refine At.then_ ?_
   refine WC.region ?_
   refine WL.p Q0 (Yl.add Q0 Q0 Q7) ?_
   refine Qm ?_
   refine WL.nil ?_
   refine At.roundC (m + 1, s6, F6) (hs.only Q2) ⟨by rfl, by rfl, by rfl, by rfl, by rfl, by rfl, by rfl, by rfl, by rfl, trivial⟩ ⟨by rfl, by rfl, trivial⟩ ?_ ?_
   ·
    show d.rules.l.length - (m + 1) < d.rules.l.length - m
    omega
   ·
    exact ⟨by omega, by rw [hl6, hI2, List.append_assoc]; exact congrArg (fun z => s.l ++ z) (map_step he)⟩
  ·
   replace h2 := of_decide_eq_false h2
   refine WC.exit ?_
   refine At.thenexit ?_
   refine At.thenexit ?_
   refine At.blockexit ?_
   refine At.blocknormal ?_
   refine At.then_ ?_
   refine WC.region ?_
   refine WL.p Q0 (Yl.add Q0 Q0 Q7) ?_
   refine Qm ?_
   refine WL.nil ?_
   refine At.roundC (k + 1, z, G) (hs.only Q2) ⟨by rfl, by rfl, by rfl, by rfl, trivial⟩ ⟨by rfl, by rfl, trivial⟩ ?_ ?_
   ·
    show l.l.length - (k + 1) < l.l.length - k
    omega
   ·
    exact ⟨by omega, by rw [names_step hd, ← hJ2, hI2, show m = d.rules.l.length from by omega, List.take_length]⟩
 ·
  replace h1 := of_decide_eq_false h1
  refine WC.exit ?_
  refine At.thenexit ?_
  refine At.thenexit ?_
  refine At.blockexit ?_
  refine At.then_ ?_
  refine WC.seq ?_
  refine Qm ?_
  refine WL.callm (a := s) (F := F) hs Q2 Q0 (Yc.func Q0 fn43) (c_slices_Sort___string_string_ s _ F (own_of hs Q1) (nodup_of hs Q1) Q7) ?_
  clear hs; intro a7 F7 w he7 hq7 hs
  have hv7 : Sl.v a7 = Sl.v s := Sl.enc_v he7
  refine WL.next ?_
  refine WC.seq ?_
  refine WL.p Q0 (Yl.build bt27 Q0 Q4) ?_
  refine WL.r Q0 (Yr.alloc hs zt27) ?_
  clear hs; rintro _ w ⟨b8, rfl, hb, hs⟩; clear hb
  refine WL.s (Yr.storeB hs Q0 Q0 Q0 Q5 Q3 Q0 (by exact szf27)) ?_
  clear hs; rintro _ w hs
  refine WL.next ?_
  refine WC.seq' ?_
  refine WC.seq ?_
  refine Qm ?_
  refine WL.callo (s := a7) (F := F7) hs Q2 Q0 (Yc.func Q0 fn44) (calls_conv (congrArg (fun z => ([z] : List Value).toArray) hv7) (c_slices_Compact___string_string_ a7 _ F7 (own_of hs Q1) (nodup_of hs Q1))) ?_
  clear hs; intro x9 F9 w hx9 hs
  refine WL.p Q0 (Yl.len_sl slu48 Q0) ?_
  refine Qm ?_
  refine WL.next ?_
  refine WC.block ?_
  replace hs := Sat.nilsl (α := TRule) hs
  refine WC.loopC (ι := Nat × Sl TRule × List Nat) (fun ⟨j, q, H⟩ => x9.l.length - j) (fun ⟨j, q, H⟩ => [(38, I (j : Int))]) (fun ⟨j, q, H⟩ => [box b8 27 [Sl.v q], ow q H]) (fun ⟨j, q, H⟩ => j ≤ x9.l.length ∧ q.l = (x9.l.take j).map (fun nm => (⟨nm, colorOf nm l.l⟩ : TRule))) [(0, _), (2, _), (3, _), (8, _), (12, _), (13, _), (14, _), (15, _), (36, _), (37, _)] (0, ⟨[], none, 0⟩, []) (hs.sel (D := [box b8 27 _, ow (⟨[], none, 0⟩ : Sl TRule) []]) Q2) ⟨by rfl, by rfl, by rfl, by rfl, by rfl, by rfl, by rfl, by rfl, by rfl, by rfl, trivial⟩ ⟨by rfl, trivial⟩ ?_ ?_
  ·
   exact ⟨Nat.zero_le _, rfl⟩
  clear hs; rintro ⟨j, q, H⟩ w ⟨hK1, hK2⟩ hs
  simp only [List.cons_append, List.nil_append] at hs
  have hcl : x9.l.length ≤ 1048576 := by rw [hx9, hq7]; exact Nat.le_trans (compact_len _) (by rw [List.length_mergeSort]; omega)
  have hql : q.l.length ≤ 1048576 := by rw [hK2, List.length_map, List.length_take]; omega
  refine WC.seq ?_
  refine WL.p Q0 (Yl.lss Q0 Q0) ?_
  refine WL.next ?_
  refine WC.seq' ?_
  refine WC.condS Q0 (fun h2 => ?_) (fun h2 => ?_)
  ·
   replace h2 := of_decide_eq_true h2
   obtain ⟨f, hf⟩ := exists_get (l := x9.l) (k := j) Q7
   refine WC.skipn ?_
   refine WC.seq' ?_
   refine WC.block ?_
   refine WC.seq ?_
   refine WL.p Q0 (Yl.indexAddr slt48 Q0 Q0 (hs.okow (x := x9) (F := F9) Q1) Q0 (hf)) ?_
   refine WL.p Q0 (Yl.loadC0 sca9 Q0 (Sl.Ok.at_ (hs.okow (x := x9) (F := F9) Q1) (by assumption)).2 Q0) ?_
   refine Qa ?_
   refine WL.next ?_
   refine WC.anyX (K := [box b8 _ _, ow q H]) mixed hs Q2 ?_
   clear hs; intro w hs
   refine WA.p (i := 0) Q0 Q6 Q6 Q6 Q0 (hs.only Q2) (fun w hs => Yl.fieldAddr fa27_0 Q0) ?_
   refine WA.p (i := 2) Q0 Q6 Q6 Q6 Q0 (hs.only Q2) (fun w hs => Yl.move Q0) ?_
   refine WA.p (i := 3) Q0 Q6 Q6 Q6 Q0 (hs.only Q2) (fun w hs => Yl.move Q0) ?_
   refine WA.p (i := 4) Q0 Q6 Q6 Q6 Q0 (hs.only Q2) (fun w hs => Yl.move Q0) ?_
   refine WA.two (i := 1) (j := 5) Q6 ?_ ?_
   ·
    refine WI.r (i := 1) Q0 Q0 (Yl.yr (Yl.loadB sca25 Q0 hs Q1 Q0)) (by rintro _ _ ⟨rfl, rfl⟩; exact hs.only Q2) ?_
    rintro _ _ ⟨rfl, rfl⟩
    refine WA.callp2 (i := 5) hs (fun _ hs => hs.only Q2) Q6 Q0 Q0 (Yc.func Q0 fn14) (c_impl_ColorOf _ _ _ (Ph.old h_l hs)) ?_
    clear hs; intro w hs
    refine WA.p (i := 6) Q0 Q6 Q6 Q6 Q0 (hs.only Q2) (fun w hs => Yl.build bt36 Q0 Q4) ?_
    refine WA.r (i := 7) Q6 Q0 Q0 (Yr.buildSlice hs sll25 Q0 Q0 Q0 Q4 Q0) (by rintro _ w ⟨b10, rfl, hb, hs⟩; exact hs.only Q2) ?_
    clear hs; rintro _ w ⟨b10, rfl, hb, hs⟩; clear hb
    refine WA.r (i := 8) Q6 Q0 Q0 (Yr.append (s := q) (F := H) hs elt25 Q2 Q0 Q0 rfl (xs := [⟨f, colorOf f l.l⟩]) (hs.box_cells Q1) (by intro x hx; obtain rfl := List.mem_singleton.1 hx; exact ⟨Sl.Ok.elem (hs.okow (x := x9) (F := F9) Q1) hf, colorOf_wf (fun s9 hs9 x9 hx9 => (Sl.Ok.elems ((Ph.old h_l hs).elems s9 hs9).rules x9 hx9).color)⟩) (by simp; unfold maxLen; omega) (by simp; omega)) (by rintro _ w ⟨s11, F11, rfl, hl11, hs⟩; exact hs.only Q2) ?_
    clear hs; rintro _ w ⟨s11, F11, rfl, hl11, hs⟩
    refine WA.p (i := 9) Q0 Q6 Q6 Q6 Q0 (hs.only Q2) (fun w hs => Yl.fieldAddr fa27_0 Q0) ?_
    refine WA.s (i := 10) Q6 Q0 (Yr.storeB hs Q0 Q0 Q0 Q5 Q3 Q0 (by exact szf25)) (by rintro _ w hs; exact hs.only Q2) ?_
    clear hs; rintro _ w hs
    refine WA.done Q6 ?_
    refine At.blocknormal ?_
    refine At.then_ ?_
    refine WC.region ?_
    refine WL.p Q0 (Yl.add Q0 Q0 Q7) ?_
    refine Qm ?_
    refine WL.nil ?_
    refine At.roundC (j + 1, s11, F11) (hs.only Q2) ⟨by rfl, by rfl, by rfl, by rfl, by rfl, by rfl, by rfl, by rfl, by rfl, by rfl, trivial⟩ ⟨by rfl, trivial⟩ ?_ ?_
    ·
     show x9.l.length - (j + 1) < x9.l.length - j
     omega
    ·
     exact ⟨by omega, by rw [hl11, hK2]; exact map_step hf⟩
   ·
    refine WI.callp2 (i := 5) hs (fun _ hs => hs.only Q2) Q0 Q0 (Yc.func Q0 fn14) (c_impl_ColorOf _ _ _ (Ph.old h_l hs)) ?_
    clear hs; intro w hs
    refine WA.p (i := 6) Q0 Q6 Q6 Q6 Q0 (hs.only Q2) (fun w hs => Yl.build bt36 Q0 Q4) ?_
    refine WA.dag' [(⟨1, 43, [], (fun _ v cs => v = Sl.v q ∧ cs = [])⟩, []), (⟨7, 49, [], (fun _ v cs => ∃ b, v = .slice (some ⟨b, 0, none⟩) 1 1 ∧ cs = [box b 36 ((Ph.enc ((⟨f, (colorOf f l.l)⟩ : TRule))))])⟩, [])] [false, false] [(0, _), (2, _), (3, _), (8, _), (10, _), (12, _), (13, _), (14, _), (15, _), (36, _), (37, _), (38, _), (39, _), (40, _), (41, _), (42, _), (44, _), (45, _), (46, _), (47, _), (48, _)] ⟨by rfl, by rfl, by rfl, by rfl, by rfl, by rfl, by rfl, by rfl, by rfl, by rfl, by rfl, by rfl, by rfl, by rfl, by rfl, by rfl, by rfl, by rfl, by rfl, by rfl, by rfl, trivial⟩ Q0 Q6 Q6 Q6 Q6 Q6 Q6 Q6 Q6 (fun _ hs => hs.only Q2) hs (fuel := 3) ⟨⟨local_const, ?_⟩, ⟨local_const, ?_⟩, trivial⟩ ?_
    ·
     clear hs
     intro w R hs
     simp only [List.cons_append, List.nil_append] at hs
     exact Gives.p' Q0 (Yl.loadB sca25 Q0 hs Q1 Q0) ⟨[], ⟨rfl, rfl⟩, hs⟩
    ·
     clear hs
     intro w R hs
     simp only [List.cons_append, List.nil_append] at hs
     exact Gives.rr' Q0 (Yr.buildSlice hs sll25 Q0 Q0 Q0 Q4 Q0) (fun _ _ ⟨b, hv, _, hs1⟩ => ⟨[box b 36 ((Ph.enc ((⟨f, (colorOf f l.l)⟩ : TRule))))], ⟨b, hv, rfl⟩, hs1⟩)
    clear hs
    rintro _ _ ⟨rfl, rfl⟩
    rintro _ _ ⟨b13, rfl, rfl⟩
    intro w hs
    simp only [List.cons_append, List.nil_append, cond_true, cond_false] at hs
    refine WA.r (i := 8) Q6 Q0 Q0 (Yr.append (s := q) (F := H) hs elt25 Q2 Q0 Q0 rfl (xs := [⟨f, colorOf f l.l⟩]) (hs.box_cells Q1) (by intro x hx; obtain rfl := List.mem_singleton.1 hx; exact ⟨Sl.Ok.elem (hs.okow (x := x9) (F := F9) Q1) hf, colorOf_wf (fun s9 hs9 x9 hx9 => (Sl.Ok.elems ((Ph.old h_l hs).elems s9 hs9).rules x9 hx9).color)⟩) (by simp; unfold maxLen; omega) (by simp; omega)) (by rintro _ w ⟨s14, F14, rfl, hl14, hs⟩; exact hs.only Q2) ?_
    clear hs; rintro _ w ⟨s14, F14, rfl, hl14, hs⟩
    refine WA.p (i := 9) Q0 Q6 Q6 Q6 Q0 (hs.only Q2) (fun w hs => Yl.fieldAddr fa27_0 Q0) ?_
    refine WA.s (i := 10) Q6 Q0 (Yr.storeB hs Q0 Q0 Q0 Q5 Q3 Q0 (by exact szf25)) (by rintro _ w hs; exact hs.only Q2) ?_
    clear hs; rintro _ w hs
    refine WA.done Q6 ?_
    refine At.blocknormal ?_
    refine At.then_ ?_
    refine WC.region ?_
    refine WL.p Q0 (Yl.add Q0 Q0 Q7) ?_
    refine Qm ?_
    refine WL.nil ?_
    refine At.roundC (j + 1, s14, F14) (hs.only Q2) ⟨by rfl, by rfl, by rfl, by rfl, by rfl, by rfl, by rfl, by rfl, by rfl, by rfl, trivial⟩ ⟨by rfl, trivial⟩ ?_ ?_
    ·
     show x9.l.length - (j + 1) < x9.l.length - j
     omega
    ·
     exact ⟨by omega, by rw [hl14, hK2]; exact map_step hf⟩
  ·
   replace h2 := of_decide_eq_false h2
   refine WC.exit ?_
   refine At.thenexit ?_
   refine At.thenexit ?_
   refine At.blockexit ?_
   refine At.then_ ?_
   refine WC.seq ?_
   refine WL.p Q0 (Yl.loadAB agg27 Q0 hs Q1 Q0 Q0) ?_
   refine WL.s (Yr.storeB hs Q0 Q0 Q0 Q5 Q3 Q0 (by exact szf27)) ?_
   clear hs; rintro _ w hs
   refine WL.next ?_
   refine WC.ret ?_
   refine fin1c rfl agg27 Q0 hs Q1 Q0 ?_
   refine Ret.mk hs ?_
   refine ⟨⟨q⟩, rfl, ?_, ?_⟩
   · have e9 : PSheet.lg ⟨q⟩ = joinT (l.l.map PSheet.lg) := join_of (c := x9.l) (by rw [hx9, hq7, hJ2, show k = l.l.length from by omega, List.take_length]) (by rw [hK2, List.take_of_length_le Q7])
     exact e9
   · exact (PSheet.join _ (hs.only (D := [ow q H]) Q2) ).fresh List.mem_cons_self

theorem c_spec_l6Attrs (l : (Sl TAttr)) (w : World) (h_l : Ph.ok w l) (hb : l.l.length ≤ 1048576) : Calls Tryz.prog 78 [Sl.v l].toArray w (Ret w (fun v w' => ∃ x : Sl TAttr, v = x.v ∧ x.l = l.l ∧ Fresh w x w')) := by
 refine enterN 6 Tryz.func78 rfl rfl rfl ?_
 have hs := Sat.start w
 refine WC.seq ?_
 refine Qa ?_
 refine WL.next ?_
 refine WC.seq ?_
 refine WL.r Q0 (Yr.buildSlice hs sll82 Q0 Q0 Q0 Q4 Q0) ?_
 clear hs; rintro _ w ⟨b1, rfl, hb, hs⟩; clear hb
 refine Qm ?_
 replace hs := (Sat.boxow (l := ([] : List TAttr)) (hs.sel (D := [box b1 _ _]) Q2) rfl rfl (by simp [maxLen]) (ownL_mk_flat (by simp)))
 refine WL.r Q0 (Yr.appendS (s := (⟨[], some ⟨b1, 0, none⟩, _⟩ : Sl TAttr)) (F := [b1]) (r := l) hs elt82 Q2 Q0 Q0 (Ph.old h_l hs) (by simp; unfold maxLen; omega) (by simp; omega)) ?_
 clear hs; rintro _ w ⟨s2, F2, rfl, hl2, hs⟩
 refine Qa ?_
 refine WL.next ?_
 refine WC.ret ?_
 refine fin1' rfl Q0 ?_
 refine Ret.mk hs ?_
 exact ⟨s2, rfl, by rw [hl2, List.nil_append], hs.fresh Q1⟩

theorem c_spec_l6Copy (b : PBuilder) (w : World) (h_b : Ph.ok w b) (hb : b.lg.size ≤ 1048576) : Calls Tryz.prog 55 [.agg #[Sl.v b.nodes, Sl.v b.opn]].toArray w (Ret w (fun v w' => ∃ x : PBuilder, v = .agg (Ph.enc x).toArray ∧ x.lg = b.lg ∧ Fresh w x w')) := by
 have hw := h_b.nodes.lt
 have hbn : lsz TNode.size (b.nodes.l.map PNode.lg) ≤ 1048576 := by simp only [TBuilder.size, PBuilder.lg] at hb; simp only [lsz] at *; omega
 have hbo : b.opn.l.length ≤ 1048576 := by simp only [TBuilder.size, PBuilder.lg, lsz] at hb; omega
 have hbl : b.nodes.l.length ≤ 1048576 := by simp only [lsz, List.length_map] at hbn; omega
 refine enterN 38 Tryz.func55 rfl rfl rfl ?_
 have hs := Sat.start w
 refine WC.seq ?_
 refine WL.r Q0 (Yr.box hs Q0 Q0) ?_
 clear hs; rintro _ w ⟨b1, rfl, hb, hs⟩; clear hb
 refine WL.r Q0 (Yr.alloc hs zt40) ?_
 clear hs; rintro _ w ⟨b2, rfl, hb, hs⟩; clear hb
 refine WL.next ?_
 refine WC.seq ?_
 refine WL.r Q0 (Yr.buildSlice hs sll38 Q0 Q0 Q0 Q4 Q0) ?_
 clear hs; rintro _ w ⟨b3, rfl, hb, hs⟩; clear hb
 refine WL.p Q0 (Yl.fieldAddr fa40_1 Q0) ?_
 refine WL.p Q0 (Yl.loadB sca38 Q0 hs Q1 Q0) ?_
 replace hs := (Sat.boxow (l := ([] : List Int)) (hs.sel (D := [box b3 _ _]) Q2) rfl rfl (by simp [maxLen]) (ownL_mk_flat (by simp)))
 refine WL.r Q0 (Yr.appendS (s := (⟨[], some ⟨b3, 0, none⟩, _⟩ : Sl Int)) (F := [b3]) (r := b.opn) hs elt38 Q2 Q0 Q0 (Ph.old h_b.opn hs) (by first | (rw [hql]; unfold maxLen; omega) | (simp; unfold maxLen; omega)) (by first | (rw [hql]; omega) | (simp; omega))) ?_
 clear hs; rintro _ w ⟨s4, F4, rfl, hl4, hs⟩
 refine WL.p Q0 (Yl.build bt40 Q0 Q4) ?_
 refine WL.r Q0 (Yr.alloc hs zt40) ?_
 clear hs; rintro _ w ⟨b5, rfl, hb, hs⟩; clear hb
 refine WL.s (Yr.storeB hs Q0 Q0 Q0 Q5 Q3 Q0 (by exact szf40)) ?_
 clear hs; rintro _ w hs
 refine WL.next ?_
 refine WC.seq' ?_
 refine WC.seq ?_
 refine Qa ?_
 refine WL.next ?_
 refine WC.block ?_
 replace hs := Sat.nilsl (α := PNode) hs
 refine WC.loopC (ι := Nat × Sl PNode × List Nat) (fun ⟨k, q, F⟩ => b.nodes.l.length - k) (fun ⟨k, q, F⟩ => [(4, I (k : Int))]) (fun ⟨k, q, F⟩ => [box b5 40 [Sl.v q, Sl.v s4], ow q F]) (fun ⟨k, q, F⟩ => k ≤ b.nodes.l.length ∧ q.l.map PNode.lg = (b.nodes.l.take k).map PNode.lg) [(0, _), (1, _), (2, _), (3, _)] (0, ⟨[], none, 0⟩, []) (hs.sel (D := [box b5 40 _, ow (⟨[], none, 0⟩ : Sl PNode) []]) Q2) ⟨by rfl, by rfl, by rfl, by rfl, trivial⟩ ⟨by rfl, trivial⟩ ?_ ?_
 ·
  exact ⟨Nat.zero_le _, rfl⟩
 clear hs; rintro ⟨k, q, F⟩ w ⟨hJ1, hJ2⟩ hs
 simp only [List.cons_append, List.nil_append] at hs
 refine WC.seq' ?_
 refine WC.seq ?_
 refine Qm ?_
 refine WL.p Q0 (Yl.fieldAddr fa40_0 Q0) ?_
 refine WL.p Q0 (Yl.loadB sca37 Q0 hs Q1 Q0) ?_
 refine WL.p Q0 (Yl.len_sl slu37 Q0) ?_
 refine WL.p Q0 (Yl.lss Q0 Q0) ?_
 refine WL.next ?_
 refine WC.condS Q0 (fun h1 => ?_) (fun h1 => ?_)
 ·
  replace h1 := of_decide_eq_true h1
  obtain ⟨d, hd⟩ := exists_get (l := b.nodes.l) (k := k) Q7
  have hql : q.l.length = k := by have := congrArg List.length hJ2; simp at this; omega
  have hdl := lsum_le (f := fun d : PNode => d.lg.size) (List.mem_of_getElem? hd)
  have hdf : d.attrs.l.length ≤ 1048576 := by rw [lsz_map] at hbn; simp only [lsz, TNode.size] at hbn hdl; omega
  refine WC.skipn ?_
  refine WC.seq' ?_
  refine WC.block ?_
  refine WC.seq ?_
  refine WL.p Q0 (Yl.fieldAddr fa40_0 Q0) ?_
  refine WL.p Q0 (Yl.loadB sca37 Q0 hs Q1 Q0) ?_
  refine Qm ?_
  refine WL.p Q0 (Yl.indexAddr slt37 Q0 Q0 (Ph.old h_b.nodes hs) Q0 (hd)) ?_
  refine WL.p Q0 (Yl.loadA agg84 Q0 (Sl.Ok.at_ (Ph.old h_b.nodes hs) (by assumption)).2 Q0) ?_
  refine WL.r Q0 (Yr.alloc hs zt84) ?_
  clear hs; rintro _ w ⟨b6, rfl, hb, hs⟩; clear hb
  refine WL.s (Yr.storeB hs Q0 Q0 Q0 Q5 Q3 Q0 (by exact szf84)) ?_
  clear hs; rintro _ w hs
  refine WL.next ?_
  refine WC.seq ?_
  refine WL.p Q0 (Yl.fieldAddr fa40_0 Q0) ?_
  refine WL.p Q0 (Yl.loadB sca37 Q0 hs Q1 Q0) ?_
  refine Qm ?_
  refine WL.p Q0 (Yl.indexAddr slt37 Q0 Q0 (Ph.old h_b.nodes hs) Q0 (hd)) ?_
  refine WL.p Q0 (Yl.fieldAddr fa84_3 Q0) ?_
  refine WL.p Q0 (Yl.loadC sca82 Q0 (Sl.Ok.at_ (Ph.old h_b.nodes hs) (by assumption)).2 Q0) ?_
  refine WL.call hs Q0 (Yc.func Q0 fn78) (c_spec_l6Attrs _ _ (Ph.old (Sl.Ok.elem h_b.nodes hd).attrs hs) (by exact hdf)) ?_
  have hs0 := hs; clear hs; intro v w hb hR hs; clear hs
  obtain ⟨x7, rfl, hx7, hf7⟩ := hR
  obtain ⟨F7, hs⟩ := hf7.sat hs0 hb; clear hs0 hf7
  have hle7 := Sl.Ok.le (hs.okow (x := x7) (F := F7) Q1)
  refine WL.p Q0 (Yl.fieldAddr fa84_3 Q0) ?_
  refine WL.s (Yr.storeB hs Q0 Q0 Q0 Q5 Q3 Q0 (by exact szf82)) ?_
  clear hs; rintro _ w hs
  refine WL.next ?_
  refine WC.region ?_
  refine WL.p Q0 (Yl.fieldAddr fa40_0 Q0) ?_
  refine WL.p Q0 (Yl.loadB sca37 Q0 hs Q1 Q0) ?_
  refine WL.p Q0 (Yl.loadAB agg84 Q0 hs Q1 Q0 Q0) ?_
  refine WL.r Q0 (Yr.buildSlice hs sll37 Q0 Q0 Q0 Q4 Q0) ?_
  clear hs; rintro _ w ⟨b8, rfl, hb, hs⟩; clear hb
  replace hs := PNode.join (⟨d.name, d.text, d.parent, x7⟩ : PNode) (hs.sel (D := [ow x7 F7]) Q2) (by first | exact (Ph.old (Sl.Ok.elem h_b.nodes hd).name hs) | (refine Ph.old ?_ hs; assumption) ) (by first | exact (Ph.old (Sl.Ok.elem h_b.nodes hd).text hs) | (refine Ph.old ?_ hs; assumption) ) (by first | exact (Ph.old (Sl.Ok.elem h_b.nodes hd).parent hs) | (refine Ph.old ?_ hs; assumption) | exact (show WfI (d.parent) from ⟨by omega, by omega⟩))
  try simp only [List.cons_append, List.nil_append] at hs
  refine WL.r Q0 (Yr.appendE (s := q) (F := F) (u := (⟨d.name, d.text, d.parent, x7⟩ : PNode)) (G := F7) hs elt37 Q2 Q0 Q0 (hs.box_cells Q1) (by first | (rw [hql]; unfold maxLen; omega) | (simp; unfold maxLen; omega)) (by first | (rw [hql]; omega) | (simp; omega))) ?_
  clear hs; rintro _ w ⟨s9, F9, rfl, hl9, hs⟩
  refine WL.p Q0 (Yl.fieldAddr fa40_0 Q0) ?_
  refine WL.s (Yr.storeB hs Q0 Q0 Q0 Q5 Q3 Q0 (by exact szf37)) ?_
  clear hs; rintro _ w hs
  refine WL.nil ?_
  refine At.blocknormal ?_
  refine At.then_ ?_
  refine WC.region ?_
  refine Qm ?_
  refine WL.p Q0 (Yl.add Q0 Q0 Q7) ?_
  refine Qa ?_
  refine WL.nil ?_
  refine At.roundC (k + 1, s9, F9) (hs.only Q2) ⟨by rfl, by rfl, by rfl, by rfl, trivial⟩ ⟨by rfl, trivial⟩ ?_ ?_
  ·
   show b.nodes.l.length - (k + 1) < b.nodes.l.length - k
   omega
  ·
   exact ⟨by omega, by rw [hl9, List.map_append, hJ2, List.take_add_one, hd]; simp [PNode.lg, *]⟩
 ·
  replace h1 := of_decide_eq_false h1
  refine WC.exit ?_
  refine At.thenexit ?_
  refine At.thenexit ?_
  refine At.blockexit ?_
  refine At.then_ ?_
  refine WC.seq ?_
  refine WL.p Q0 (Yl.loadAB agg40 Q0 hs Q1 Q0 Q0) ?_
  refine WL.s (Yr.storeB hs Q0 Q0 Q0 Q5 Q3 Q0 (by exact szf40)) ?_
  clear hs; rintro _ w hs
  refine WL.next ?_
  refine WC.ret ?_
  refine fin1c rfl agg40 Q0 hs Q1 Q0 ?_
  refine Ret.mk hs ?_
  refine ⟨⟨q, s4⟩, rfl, ?_, ?_⟩
  · have hk9 : List.take k (List.map PNode.lg b.nodes.l) = List.map PNode.lg b.nodes.l := List.take_of_length_le (by simp; omega); simp_all [PBuilder.lg]
  · exact (PBuilder.join _ (hs.only (D := [ow q F, ow s4 F4]) Q2) ).fresh List.mem_cons_self

theorem c_spec_l6Close (b : PBuilder) (name : Str) (w : World) (h_b : Ph.ok w b)  : Calls Tryz.prog 103 [.agg #[Sl.v b.nodes, Sl.v b.opn], S name].toArray w (RetP w (.agg (Ph.enc (closeB b name)).toArray)) := by
 have hw := h_b.nodes.lt; have hv := h_b.opn.lt
 refine enterN 43 Tryz.func103 rfl rfl rfl ?_
 have hs := Sat.start w
 refine WC.seq ?_
 refine WL.r Q0 (Yr.box hs Q0 Q0) ?_
 clear hs; rintro _ w ⟨b1, rfl, hb, hs⟩; clear hb
 refine WL.r Q0 (Yr.alloc hs zt40) ?_
 clear hs; rintro _ w ⟨b2, rfl, hb, hs⟩; clear hb
 refine WL.next ?_
 refine WC.seq' ?_
 refine WC.seq ?_
 refine WL.p Q0 (Yl.fieldAddr fa40_1 Q0) ?_
 refine WL.p Q0 (Yl.loadB sca38 Q0 hs Q1 Q0) ?_
 refine WL.p Q0 (Yl.len_sl slu38 Q0) ?_
 refine WL.p Q0 (Yl.sub_ Q0 Q0 Q7) ?_
 refine Qa ?_
 refine WL.next ?_
 refine WC.block ?_
 refine WC.loopC (ι := Nat) (fun m => m) (fun m => [(5, I ((m : Int) - 1))]) (fun m => [box b1 40 [Sl.v b.nodes, Sl.v b.opn]]) (fun m => m ≤ b.opn.l.length ∧ closeI b name b.opn.l.length = closeI b name m) [(0, _), (1, _), (2, _), (4, _)] b.opn.l.length (hs.sel (D := [box b1 40 _]) Q2) ⟨by rfl, by rfl, by rfl, by rfl, trivial⟩ ⟨by rfl, trivial⟩ ?_ ?_
 ·
  exact ⟨Nat.le_refl _, rfl⟩
 clear hs; rintro m w ⟨hJ1, hJ2⟩ hs
 simp only [List.cons_append, List.nil_append] at hs
 have hd2x : ∃ d : Int, m ≠ 0 → b.opn.l[m - 1]? = some d := by
  by_cases h9 : m = 0
  · exact ⟨0, fun h => absurd h9 h⟩
  · exact ⟨b.opn.l[m - 1]'Q7, fun _ => List.getElem?_eq_getElem Q7⟩
 obtain ⟨d, hd⟩ := hd2x
 refine WC.seq' ?_
 refine WC.seq ?_
 refine Qm ?_
 refine WL.p Q0 (Yl.gtr Q0 Q0) ?_
 refine WL.next ?_
 refine WC.condS Q0 (fun h1 => ?_) (fun h1 => ?_)
 ·
  replace h1 := of_decide_eq_true h1
  refine WC.skipn ?_
  refine WC.seq' ?_
  refine WC.block ?_
  refine WC.seq ?_
  refine WL.p Q0 (Yl.fieldAddr fa40_1 Q0) ?_
  refine WL.p Q0 (Yl.loadB sca38 Q0 hs Q1 Q0) ?_
  refine Qm ?_
  refine WL.p Q0 (Yl.indexAddr slt38 Q0 Q0 (Ph.old h_b.opn hs) (by first | rfl | omega) ((hd Q7))) ?_
  refine WL.p Q0 (Yl.loadC0 sca3 Q0 (Sl.Ok.at_ (Ph.old h_b.opn hs) ((hd Q7))).2 Q0) ?_
  refine Qa ?_
  refine WL.next ?_
  refine WC.seq ?_
  refine Qm ?_
  refine WL.p Q0 (Yl.fieldAddr fa40_0 Q0) ?_
  refine WL.p Q0 (Yl.loadB sca37 Q0 hs Q1 Q0) ?_
  refine WL.p Q0 (Yl.len_sl slu37 Q0) ?_
  refine WL.p Q0 (Yl.sub_ Q0 Q0 Q7) ?_
  refine WL.callp hs Q0 (Yc.func Q0 fn39) (c_spec_l1In _ _ _ _) ?_
  clear hs; intro w hs
  refine Qm ?_
  refine WL.split (d := 26) Q0 (fun h2 => ?_) (fun h2 => ?_)
  ·
   replace h2 := inR_true.1 h2
   obtain ⟨x, hx⟩ := exists_get (l := b.nodes.l) (k := d.toNat) Q7
   refine WL.run (d := 26) Q0 Q0 ?_
   refine WL.p Q0 (Yl.fieldAddr fa40_0 Q0) ?_
   refine WL.run (d := 26) Q0 Q0 ?_
   refine WL.p Q0 (Yl.loadB sca37 Q0 hs Q1 Q0) ?_
   refine WL.run (d := 26) Q0 Q0 ?_
   refine Qm ?_
   refine WL.run (d := 26) Q0 Q0 ?_
   refine WL.p Q0 (Yl.indexAddr slt37 Q0 Q0 (Ph.old h_b.nodes hs) (by first | rfl | omega) (hx)) ?_
   refine WL.run (d := 26) Q0 Q0 ?_
   refine WL.p Q0 (Yl.fieldAddr fa84_0 Q0) ?_
   refine WL.run (d := 26) Q0 Q0 ?_
   refine WL.p Q0 (Yl.loadC sca9 Q0 (Sl.Ok.at_ (Ph.old h_b.nodes hs) (by assumption)).2 Q0) ?_
   refine WL.run (d := 26) Q0 Q0 ?_
   refine Qm ?_
   refine WL.run (d := 26) Q0 Q0 ?_
   refine WL.p Q0 (Yl.eqs Q0 Q0) ?_
   refine WL.p Q0 (Yl.pickT Q0 Q0) ?_
   refine WL.next ?_
   refine WC.condS Q0 (fun h3 => ?_) (fun h3 => ?_)
   ·
    replace h3 := of_decide_eq_true h3
    refine WC.seq ?_
    refine WL.p Q0 (Yl.fieldAddr fa40_1 Q0) ?_
    refine WL.p Q0 (Yl.loadB sca38 Q0 hs Q1 Q0) ?_
    refine Qm ?_
    refine WL.p Q0 (Yl.slice_sl (s := b.opn) (l := 0) (h := (m - 1)) slt38 Q0 (Sl.Ok.le (Ph.old h_b.opn hs)) rfl ⟨_, by exact congrArg (fun z => some (I z)) Q7⟩ Q7 (by first | omega | exact Nat.le_refl _)) ?_
    refine WL.p Q0 (Yl.fieldAddr fa40_1 Q0) ?_
    refine WL.s (Yr.storeB hs Q0 Q0 Q0 Q5 Q3 Q0 (by exact szf38)) ?_
    clear hs; rintro _ w hs
    refine WL.next ?_
    refine WC.seq ?_
    refine WL.p Q0 (Yl.loadAB agg40 Q0 hs Q1 Q0 Q0) ?_
    refine WL.s (Yr.storeB hs Q0 Q0 Q0 Q5 Q3 Q0 (by exact szf40)) ?_
    clear hs; rintro _ w hs
    refine WL.next ?_
    refine WC.ret ?_
    refine At.blockret ?_
    refine At.thenret ?_
    refine At.thenret ?_
    refine At.blockret ?_
    refine At.thenret ?_
    refine fin1c rfl agg40 Q0 hs Q1 Q0 ?_
    refine RetP.mk hs ?_
    first
     | (rw [closeB_cut (hJ2.trans (closeI_yes Q7 (hit_yes (hd Q7) (by first | assumption | omega) hx (by assumption)))) Q7]; rfl)
     | (rw [closeB_all (hJ2.trans (closeI_end Q7))]; rfl)
   ·
    replace h3 := of_decide_eq_false h3
    refine WC.skip ?_
    refine At.blocknormal ?_
    refine At.then_ ?_
    refine WC.region ?_
    refine Qm ?_
    refine WL.p Q0 (Yl.sub_ Q0 Q0 Q7) ?_
    refine Qa ?_
    refine WL.nil ?_
    refine At.roundC (m - 1) (hs.only Q2) ⟨by rfl, by rfl, by rfl, by rfl, trivial⟩ ⟨by exact congrArg (fun z => some (I z)) Q7, trivial⟩ ?_ ?_
    ·
     omega
    ·
     refine ⟨by omega, ?_⟩
     rw [hJ2]
     first
      | exact closeI_no Q7 (hit_no (hd Q7) hx (by assumption))
      | exact closeI_no Q7 (hit_out (hd Q7) (by first | assumption | exact inR_false.2 Q7))
  ·
   replace h2 := inR_false.1 h2
   refine WL.skip (d := 26) Q0 Q0 Q0 Q0 ?_
   refine WL.skip (d := 26) Q0 Q0 Q0 Q0 ?_
   refine WL.skip (d := 26) Q0 Q0 Q0 Q0 ?_
   refine WL.skip (d := 26) Q0 Q0 Q0 Q0 ?_
   refine WL.skip (d := 26) Q0 Q0 Q0 Q0 ?_
   refine WL.skip (d := 26) Q0 Q0 Q0 Q0 ?_
   refine WL.skip (d := 26) Q0 Q0 Q0 Q0 ?_
   refine WL.skip (d := 26) Q0 Q0 Q0 Q0 ?_
   refine WL.p Q0 (Yl.pickF Q0 Q0) ?_
   refine WL.next ?_
   refine WC.condF Q0 ?_
   refine WC.skip ?_
   refine At.blocknormal ?_
   refine At.then_ ?_
   refine WC.region ?_
   refine Qm ?_
   refine WL.p Q0 (Yl.sub_ Q0 Q0 Q7) ?_
   refine Qa ?_
   refine WL.nil ?_
   refine At.roundC (m - 1) (hs.only Q2) ⟨by rfl, by rfl, by rfl, by rfl, trivial⟩ ⟨by exact congrArg (fun z => some (I z)) Q7, trivial⟩ ?_ ?_
   ·
    omega
   ·
    refine ⟨by omega, ?_⟩
    rw [hJ2]
    first
     | exact closeI_no Q7 (hit_no (hd Q7) hx (by assumption))
     | exact closeI_no Q7 (hit_out (hd Q7) (by first | assumption | exact inR_false.2 Q7))
 ·
  replace h1 := of_decide_eq_false h1
  refine WC.exit ?_
  refine At.thenexit ?_
  refine At.thenexit ?_
  refine At.blockexit ?_
  refine At.then_ ?_
  refine WC.seq ?_
  refine WL.p Q0 (Yl.loadAB agg40 Q0 hs Q1 Q0 Q0) ?_
  refine WL.s (Yr.storeB hs Q0 Q0 Q0 Q5 Q3 Q0 (by exact szf40)) ?_
  clear hs; rintro _ w hs
  refine WL.next ?_
  refine WC.ret ?_
  refine fin1c rfl agg40 Q0 hs Q1 Q0 ?_
  refine RetP.mk hs ?_
  first
   | (rw [closeB_cut (hJ2.trans (closeI_yes Q7 (hit_yes (hd Q7) (by first | assumption | omega) hx (by assumption)))) Q7]; rfl)
   | (rw [closeB_all (hJ2.trans (closeI_end Q7))]; rfl)

theorem c_spec_IsVoid (name : Str) (w : World)   : Calls Tryz.prog 104 [S name].toArray w (RetP w (Bo (isVoid name))) := by
 refine enterN 9 Tryz.func104 rfl rfl rfl ?_
 have hs := Sat.start w
 refine WC.seq ?_
 refine Qa ?_
 refine WL.next ?_
 refine WC.seq ?_
 refine Qm ?_
 refine WL.p Q0 (Yl.eqs Q0 Q0) ?_
 refine Qm ?_
 refine WL.split (d := 5) Q0 (fun h1 => ?_) (fun h1 => ?_)
 ·
  replace h1 := of_decide_eq_true h1
  refine WL.skip (d := 5) Q0 Q0 Q0 Q0 ?_
  refine WL.skip (d := 5) Q0 Q0 Q0 Q0 ?_
  refine WL.p Q0 (Yl.pickT Q0 Q0) ?_
  refine Qa ?_
  refine WL.next ?_
  refine WC.ret ?_
  refine fin1' rfl Q0 ?_
  refine RetP.mk hs ?_
  simp_all [isVoid]
 ·
  replace h1 := of_decide_eq_false h1
  refine WL.run (d := 5) Q0 Q0 ?_
  refine Qm ?_
  refine WL.run (d := 5) Q0 Q0 ?_
  refine WL.p Q0 (Yl.eqs Q0 Q0) ?_
  refine WL.p Q0 (Yl.pickF Q0 Q0) ?_
  refine Qa ?_
  refine WL.next ?_
  refine WC.ret ?_
  refine fin1' rfl Q0 ?_
  refine RetP.mk hs ?_
  simp_all [isVoid]

theorem c_spec_AddToken (g : PBuilder) (t : PToken) (w : World) (h_g : Ph.ok w g) (h_t : Ph.ok w t) (hb : g.lg.size ≤ 1040000) (ht : t.lg.size ≤ 1040000) : Calls Tryz.prog 71 [.agg #[Sl.v g.nodes, Sl.v g.opn], .agg #[I t.kind, S t.name, Sl.v t.attrs, S t.text]].toArray w (Ret w (fun v w' => ∃ (x : PBuilder) (r : Int), v = .tuple #[.agg (Ph.enc x).toArray, I r] ∧ (Ph.ok w' r) ∧ (x.lg.size ≤ g.lg.size + t.lg.size + 2 ∧ (0 < g.opn.l.length → 0 < x.opn.l.length) ∧ (t.kind = 3 → t.text ≠ [] → 0 < g.opn.l.length → g.nodes.l.length < 40 → x.nodes.l.length = g.nodes.l.length + 1)) ∧ Fresh w x w')) := by
 have hbz := hb; simp only [TBuilder.size, PBuilder.lg] at hbz
 have hbl : g.nodes.l.length ≤ 1040000 := by simp only [lsz, List.length_map] at hbz; omega
 have htz := ht; simp only [PToken.lg, TToken.size] at htz
 refine enterN 97 Tryz.func71 rfl rfl rfl ?_
 have hs := Sat.start w
 refine WC.seq ?_
 refine WL.r Q0 (Yr.box hs Q0 Q0) ?_
 clear hs; rintro _ w ⟨b1, rfl, hb, hs⟩; clear hb
 refine WL.r Q0 (Yr.box hs Q0 Q0) ?_
 clear hs; rintro _ w ⟨b2, rfl, hb, hs⟩; clear hb
 refine WL.r Q0 (Yr.alloc hs zt40) ?_
 clear hs; rintro _ w ⟨b3, rfl, hb, hs⟩; clear hb
 refine Qa ?_
 refine WL.next ?_
 refine WC.seq ?_
 refine WL.p Q0 (Yl.loadAB agg40 Q0 hs Q1 Q0 Q0) ?_
 refine WL.call hs Q0 (Yc.func Q0 fn55) (c_spec_l6Copy _ _ (Ph.old h_g hs) Q7) ?_
 have hs0 := hs; clear hs; intro v w hb hR hs; clear hs
 obtain ⟨x4, rfl, hx4, hf4⟩ := hR
 obtain ⟨F4, hs⟩ := hf4.sat hs0 hb; clear hs0 hf4
 obtain ⟨hlga, hlgb, hlgc⟩ := lg_nodes hx4
 have hlgs := congrArg TBuilder.size hx4
 refine WL.r Q0 (Yr.alloc hs zt40) ?_
 clear hs; rintro _ w ⟨b5, rfl, hb, hs⟩; clear hb
 refine WL.s (Yr.storeB hs Q0 Q0 Q0 Q5 Q3 Q0 (by exact szf40)) ?_
 clear hs; rintro _ w hs
 refine WL.next ?_
 refine WC.seq ?_
 refine WL.p Q0 (Yl.fieldAddr fa40_0 Q0) ?_
 refine WL.p Q0 (Yl.loadB sca37 Q0 hs Q1 Q0) ?_
 refine WL.p Q0 (Yl.len_sl slu37 Q0) ?_
 refine Qa ?_
 refine WL.next ?_
 refine WC.seq' ?_
 refine WC.seq ?_
 refine WL.p Q0 (Yl.fieldAddr fa112_0 Q0) ?_
 refine WL.p Q0 (Yl.loadB sca3 Q0 hs Q1 Q0) ?_
 refine WL.p Q0 (Yl.eqi Q0 Q0) ?_
 refine WL.next ?_
 refine WC.condS Q0 (fun h1 => ?_) (fun h1 => ?_)
 ·
  replace h1 := of_decide_eq_true h1
  refine WC.seq ?_
  refine WL.p Q0 (Yl.loadAB agg40 Q0 hs Q1 Q0 Q0) ?_
  refine WL.p Q0 (Yl.fieldAddr fa112_1 Q0) ?_
  refine WL.p Q0 (Yl.loadB sca9 Q0 hs Q1 Q0) ?_
  refine WL.callp hs Q0 (Yc.func Q0 fn103) (c_spec_l6Close _ _ _ (hs.okow (x := x4) (F := F4) Q1)) ?_
  clear hs; intro w hs
  have hcl := closeB_rel x4 t.name; have hcl1 := hcl.1
  obtain ⟨Fc, hs⟩ := Sat.closeB t.name (hs.sel (D := [ow x4 F4]) Q2)
  try simp only [List.cons_append, List.nil_append] at hs
  refine WL.s (Yr.storeB hs Q0 Q0 Q0 Q5 Q3 Q0 (by exact szf40)) ?_
  clear hs; rintro _ w hs
  refine Qa ?_
  refine WL.next ?_
  refine WC.ret ?_
  refine At.thenret ?_
  refine fin2c rfl agg40 Q0 Q0 hs Q1 Q0 ?_
  refine Ret.mk hs ?_
  refine ⟨(closeB x4 t.name), _, rfl, (by first | exact (show WfI -1 from ⟨by omega, by omega⟩) | trivial | assumption | exact Flat.any (by assumption) | exact ⟨by omega, by omega⟩ | (show WfS _; unfold WfS; omega) | (show WfS _; unfold WfS; simp only [List.length_append, List.length_cons, List.length_nil] at *; omega) | (refine Ph.old ?_ hs; assumption)), ?_, ?_⟩
  ·
   refine ⟨?_, ?_, ?_⟩
   · first
     | omega
     | (simp only [PBuilder.lg, TBuilder.size, PToken.lg, TToken.size, List.map_append, List.map_cons, List.map_nil, lsz_app, lsz_one, lsz_nil, PNode.lg, TNode.size, List.length_append, List.length_cons, List.length_nil]; omega)
   · first
     | exact hcl.2 ∘ (fun h => by omega)
     | (intro a1; (try simp only [PBuilder.lg, TBuilder.size, PToken.lg, TToken.size, List.map_append, List.map_cons, List.map_nil, lsz_app, lsz_one, lsz_nil, PNode.lg, TNode.size, List.length_append, List.length_cons, List.length_nil]); omega)
   · intro a1 a2 a3 a4
     first
     | omega
     | (exfalso; simp_all; done)
     | (simp only [PBuilder.lg, TBuilder.size, PToken.lg, TToken.size, List.map_append, List.map_cons, List.map_nil, lsz_app, lsz_one, lsz_nil, PNode.lg, TNode.size, List.length_append, List.length_cons, List.length_nil]; omega)
  ·
   exact hs.fresh (x := (closeB x4 t.name)) (F := Fc) Q1
 ·
  replace h1 := of_decide_eq_false h1
  refine WC.skipn ?_
  refine WC.seqJ (fun b => [(8, Bo b)]) (fun b => b = true → t.kind = 1) [(0, _), (1, _), (2, _), (3, _), (4, _), (5, _), (6, _), (7, _), (17, _)] hs ⟨by rfl, by rfl, by rfl, by rfl, by rfl, by rfl, by rfl, by rfl, by rfl, trivial⟩ ?_ ?_
  ·
   intro Q9 join
   refine WC.region ?_
   refine WL.p Q0 (Yl.fieldAddr fa112_0 Q0) ?_
   refine WL.p Q0 (Yl.loadB sca3 Q0 hs Q1 Q0) ?_
   refine WL.p Q0 (Yl.eqi Q0 Q0) ?_
   refine Qm ?_
   refine WL.split (d := 25) Q0 (fun h2 => ?_) (fun h2 => ?_)
   ·
    replace h2 := of_decide_eq_true h2
    refine WL.run (d := 25) Q0 Q0 ?_
    refine WL.p Q0 (Yl.fieldAddr fa112_1 Q0) ?_
    refine WL.run (d := 25) Q0 Q0 ?_
    refine WL.p Q0 (Yl.loadB sca9 Q0 hs Q1 Q0) ?_
    refine WL.run (d := 25) Q0 Q0 ?_
    refine WL.callp hs Q0 (Yc.func Q0 fn104) (c_spec_IsVoid _ _) ?_
    clear hs; intro w hs
    refine WL.run (d := 25) Q0 Q0 ?_
    refine WL.p Q0 (Yl.not Q0) ?_
    refine WL.p Q0 (Yl.pickT Q0 Q0) ?_
    refine Qa ?_
    refine WL.nil ?_
    refine join _ _ _ ?_ (hs.only Q2) ⟨by rfl, trivial⟩ ⟨by rfl, by rfl, by rfl, by rfl, by rfl, by rfl, by rfl, by rfl, by rfl, trivial⟩
    first
     | exact fun h => absurd h (by decide)
     | (intro _; first | assumption | omega)
   ·
    replace h2 := of_decide_eq_false h2
    refine WL.skip (d := 25) Q0 Q0 Q0 Q0 ?_
    refine WL.skip (d := 25) Q0 Q0 Q0 Q0 ?_
    refine WL.skip (d := 25) Q0 Q0 Q0 Q0 ?_
    refine WL.skip (d := 25) Q0 Q0 Q0 Q0 ?_
    refine WL.p Q0 (Yl.pickF Q0 Q0) ?_
    refine Qa ?_
    refine WL.nil ?_
    refine join _ _ _ ?_ (hs.only Q2) ⟨by rfl, trivial⟩ ⟨by rfl, by rfl, by rfl, by rfl, by rfl, by rfl, by rfl, by rfl, by rfl, trivial⟩
    first
     | exact fun h => absurd h (by decide)
     | (intro _; first | assumption | omega)
  ·
   clear hs; rintro bj8 w hjb8 hs
   refine WC.seq' ?_
   refine WC.seqJ (fun b => [(47, Bo b)]) (fun b => (b = true → (40 ≤ g.nodes.l.length ∨ g.opn.l.length = 0 ∨ t.kind = 1)) ∧ (b = false → g.nodes.l.length < 40 ∧ 0 < g.opn.l.length)) [(0, _), (1, _), (2, _), (3, _), (4, _), (5, _), (6, _), (7, _), (8, _), (17, _)] hs ⟨by rfl, by rfl, by rfl, by rfl, by rfl, by rfl, by rfl, by rfl, by rfl, by rfl, trivial⟩ ?_ ?_
   ·
    intro Q9 join
    refine WC.region ?_
    refine Qm ?_
    refine WL.p Q0 (Yl.geq Q0 Q0) ?_
    refine Qm ?_
    refine WL.split (d := 33) Q0 (fun h2 => ?_) (fun h2 => ?_)
    ·
     replace h2 := of_decide_eq_true h2
     refine WL.skip (d := 33) Q0 Q0 Q0 Q0 ?_
     refine WL.skip (d := 33) Q0 Q0 Q0 Q0 ?_
     refine WL.skip (d := 33) Q0 Q0 Q0 Q0 ?_
     refine WL.skip (d := 33) Q0 Q0 Q0 Q0 ?_
     refine WL.p Q0 (Yl.pickT Q0 Q0) ?_
     refine Qm ?_
     refine WL.skip (d := 39) Q0 Q0 Q0 Q0 ?_
     refine WL.skip (d := 39) Q0 Q0 Q0 Q0 ?_
     refine WL.skipU (d := 41) Q0 Q0 Q0 ?_
     refine WL.skipU (d := 41) Q0 Q0 Q0 ?_
     refine WL.skipU (d := 41) Q0 Q0 Q0 ?_
     refine WL.skipU (d := 41) Q0 Q0 Q0 ?_
     refine WL.skip (d := 39) Q0 Q0 Q0 Q0 ?_
     refine WL.p Q0 (Yl.pickT Q0 Q0) ?_
     refine WL.nil ?_
     refine join _ _ _ ?_ (hs.only Q2) ⟨by rfl, trivial⟩ ⟨by rfl, by rfl, by rfl, by rfl, by rfl, by rfl, by rfl, by rfl, by rfl, by rfl, trivial⟩
     refine ⟨fun h9 => ?_, fun h9 => ?_⟩
     · first
       | exact absurd h9 (by decide)
       | (left; omega)
       | (right; left; omega)
       | (right; right; exact hjb8 (by assumption))
     · first
       | exact absurd h9 (by decide)
       | exact ⟨by omega, by omega⟩
    ·
     replace h2 := of_decide_eq_false h2
     refine WL.run (d := 33) Q0 Q0 ?_
     refine WL.p Q0 (Yl.fieldAddr fa40_1 Q0) ?_
     refine WL.run (d := 33) Q0 Q0 ?_
     refine WL.p Q0 (Yl.loadB sca38 Q0 hs Q1 Q0) ?_
     refine WL.run (d := 33) Q0 Q0 ?_
     refine WL.p Q0 (Yl.len_sl slu38 Q0) ?_
     refine WL.run (d := 33) Q0 Q0 ?_
     refine WL.p Q0 (Yl.eqi Q0 Q0) ?_
     refine WL.p Q0 (Yl.pickF Q0 Q0) ?_
     refine Qm ?_
     refine WL.split (d := 39) Q0 (fun h3 => ?_) (fun h3 => ?_)
     ·
      replace h3 := of_decide_eq_true h3
      refine WL.skip (d := 39) Q0 Q0 Q0 Q0 ?_
      refine WL.skip (d := 39) Q0 Q0 Q0 Q0 ?_
      refine WL.skipU (d := 41) Q0 Q0 Q0 ?_
      refine WL.skipU (d := 41) Q0 Q0 Q0 ?_
      refine WL.skipU (d := 41) Q0 Q0 Q0 ?_
      refine WL.skipU (d := 41) Q0 Q0 Q0 ?_
      refine WL.skip (d := 39) Q0 Q0 Q0 Q0 ?_
      refine WL.p Q0 (Yl.pickT Q0 Q0) ?_
      refine WL.nil ?_
      refine join _ _ _ ?_ (hs.only Q2) ⟨by rfl, trivial⟩ ⟨by rfl, by rfl, by rfl, by rfl, by rfl, by rfl, by rfl, by rfl, by rfl, by rfl, trivial⟩
      refine ⟨fun h9 => ?_, fun h9 => ?_⟩
      · first
        | exact absurd h9 (by decide)
        | (left; omega)
        | (right; left; omega)
        | (right; right; exact hjb8 (by assumption))
      · first
        | exact absurd h9 (by decide)
        | exact ⟨by omega, by omega⟩
     ·
      replace h3 := of_decide_eq_false h3
      refine WL.run (d := 39) Q0 Q0 ?_
      refine Qm ?_
      refine WL.run (d := 39) Q0 Q0 ?_
      refine Qm ?_
      refine WL.split (d := 41) Q0 (fun h4 => ?_) (fun h4 => ?_)
      ·
       refine WL.run (d := 41) Q0 Q0 ?_
       refine WL.p Q0 (Yl.fieldAddr fa40_1 Q0) ?_
       refine WL.run (d := 41) Q0 Q0 ?_
       refine WL.p Q0 (Yl.loadB sca38 Q0 hs Q1 Q0) ?_
       refine WL.run (d := 41) Q0 Q0 ?_
       refine WL.p Q0 (Yl.len_sl slu38 Q0) ?_
       refine WL.run (d := 41) Q0 Q0 ?_
       refine WL.p Q0 (Yl.geq Q0 Q0) ?_
       refine WL.run (d := 39) Q0 Q0 ?_
       refine WL.p Q0 (Yl.pickT Q0 Q0) ?_
       refine WL.p Q0 (Yl.pickF Q0 Q0) ?_
       refine WL.nil ?_
       refine join _ _ _ ?_ (hs.only Q2) ⟨by rfl, trivial⟩ ⟨by rfl, by rfl, by rfl, by rfl, by rfl, by rfl, by rfl, by rfl, by rfl, by rfl, trivial⟩
       refine ⟨fun h9 => ?_, fun h9 => ?_⟩
       · first
         | exact absurd h9 (by decide)
         | (left; omega)
         | (right; left; omega)
         | (right; right; exact hjb8 (by assumption))
       · first
         | exact absurd h9 (by decide)
         | exact ⟨by omega, by omega⟩
      ·
       refine WL.skip (d := 41) Q0 Q0 Q0 Q0 ?_
       refine WL.skip (d := 41) Q0 Q0 Q0 Q0 ?_
       refine WL.skip (d := 41) Q0 Q0 Q0 Q0 ?_
       refine WL.skip (d := 41) Q0 Q0 Q0 Q0 ?_
       refine WL.run (d := 39) Q0 Q0 ?_
       refine WL.p Q0 (Yl.pickF Q0 Q0) ?_
       refine WL.p Q0 (Yl.pickF Q0 Q0) ?_
       refine WL.nil ?_
       refine join _ _ _ ?_ (hs.only Q2) ⟨by rfl, trivial⟩ ⟨by rfl, by rfl, by rfl, by rfl, by rfl, by rfl, by rfl, by rfl, by rfl, by rfl, trivial⟩
       refine ⟨fun h9 => ?_, fun h9 => ?_⟩
       · first
         | exact absurd h9 (by decide)
         | (left; omega)
         | (right; left; omega)
         | (right; right; exact hjb8 (by assumption))
       · first
         | exact absurd h9 (by decide)
         | exact ⟨by omega, by omega⟩
   ·
    clear hs; rintro bj47 w hjb47 hs
    refine WC.condS Q0 (fun h2 => ?_) (fun h2 => ?_)
    ·
     have hj5 := hjb47.1 h2
     refine WC.seq ?_
     refine WL.p Q0 (Yl.loadAB agg40 Q0 hs Q1 Q0 Q0) ?_
     refine WL.s (Yr.storeB hs Q0 Q0 Q0 Q5 Q3 Q0 (by exact szf40)) ?_
     clear hs; rintro _ w hs
     refine Qa ?_
     refine WL.next ?_
     refine WC.ret ?_
     refine At.thenret ?_
     refine fin2c rfl agg40 Q0 Q0 hs Q1 Q0 ?_
     refine Ret.mk hs ?_
     refine ⟨x4, _, rfl, (by first | exact (show WfI -1 from ⟨by omega, by omega⟩) | trivial | assumption | exact Flat.any (by assumption) | exact ⟨by omega, by omega⟩ | (show WfS _; unfold WfS; omega) | (show WfS _; unfold WfS; simp only [List.length_append, List.length_cons, List.length_nil] at *; omega) | (refine Ph.old ?_ hs; assumption)), ?_, ?_⟩
     ·
      refine ⟨?_, ?_, ?_⟩
      · first
        | omega
        | (simp only [PBuilder.lg, TBuilder.size, PToken.lg, TToken.size, List.map_append, List.map_cons, List.map_nil, lsz_app, lsz_one, lsz_nil, PNode.lg, TNode.size, List.length_append, List.length_cons, List.length_nil]; omega)
      · first
        | exact hcl.2 ∘ (fun h => by omega)
        | (intro a1; (try simp only [PBuilder.lg, TBuilder.size, PToken.lg, TToken.size, List.map_append, List.map_cons, List.map_nil, lsz_app, lsz_one, lsz_nil, PNode.lg, TNode.size, List.length_append, List.length_cons, List.length_nil]); omega)
      · intro a1 a2 a3 a4
        first
        | omega
        | (exfalso; simp_all; done)
        | (simp only [PBuilder.lg, TBuilder.size, PToken.lg, TToken.size, List.map_append, List.map_cons, List.map_nil, lsz_app, lsz_one, lsz_nil, PNode.lg, TNode.size, List.length_append, List.length_cons, List.length_nil]; omega)
     ·
      exact hs.fresh (x := x4) (F := F4) Q1
    ·
     have hj5 := hjb47.2 h2
     obtain ⟨pd, hpd⟩ := exists_get (l := g.opn.l) (k := g.opn.l.length - 1) Q7
     have hpdw : WfI pd := Sl.Ok.elem (Ph.old h_g.opn hs) hpd
     refine WC.skipn ?_
     refine WC.seq ?_
     refine WL.p Q0 (Yl.fieldAddr fa40_1 Q0) ?_
     refine WL.p Q0 (Yl.loadB sca38 Q0 hs Q1 Q0) ?_
     refine WL.p Q0 (Yl.fieldAddr fa40_1 Q0) ?_
     refine WL.p Q0 (Yl.loadB sca38 Q0 hs Q1 Q0) ?_
     refine WL.p Q0 (Yl.len_sl slu38 Q0) ?_
     refine WL.p Q0 (Yl.sub_ Q0 Q0 Q7) ?_
     refine WL.p Q0 (Yl.indexAddr slt38 Q0 Q0 (Ph.old h_g.opn hs) (by first | rfl | omega) (hpd)) ?_
     refine WL.p Q0 (Yl.loadC0 sca3 Q0 (Sl.Ok.at_ (Ph.old h_g.opn hs) (by assumption)).2 Q0) ?_
     refine WL.p Q0 (Yl.build bt84 Q0 Q4) ?_
     refine WL.r Q0 (Yr.alloc hs zt84) ?_
     clear hs; rintro _ w ⟨b6, rfl, hb, hs⟩; clear hb
     refine WL.s (Yr.storeB hs Q0 Q0 Q0 Q5 Q3 Q0 (by exact szf84)) ?_
     clear hs; rintro _ w hs
     refine WL.next ?_
     refine WC.seq' ?_
     refine WC.block ?_
     refine WC.seq ?_
     refine WL.p Q0 (Yl.fieldAddr fa112_0 Q0) ?_
     refine WL.p Q0 (Yl.loadB sca3 Q0 hs Q1 Q0) ?_
     refine WL.p Q0 (Yl.eqi Q0 Q0) ?_
     refine Qa ?_
     refine WL.next ?_
     refine WC.condS Q0 (fun h3 => ?_) (fun h3 => ?_)
     ·
      replace h3 := of_decide_eq_true h3
      refine WC.seq ?_
      refine WL.p Q0 (Yl.fieldAddr fa112_1 Q0) ?_
      refine WL.p Q0 (Yl.loadB sca9 Q0 hs Q1 Q0) ?_
      refine WL.p Q0 (Yl.fieldAddr fa84_0 Q0) ?_
      refine WL.s (Yr.storeB hs Q0 Q0 Q0 Q5 Q3 Q0 (by exact szf9)) ?_
      clear hs; rintro _ w hs
      refine WL.next ?_
      refine WC.region ?_
      refine WL.p Q0 (Yl.fieldAddr fa112_2 Q0) ?_
      refine WL.p Q0 (Yl.loadB sca82 Q0 hs Q1 Q0) ?_
      refine WL.call hs Q0 (Yc.func Q0 fn78) (c_spec_l6Attrs _ _ (Ph.old h_t.attrs hs) (by simp only [PToken.lg, TToken.size, lsz] at ht; omega)) ?_
      have hs0 := hs; clear hs; intro v w hb hR hs; clear hs
      obtain ⟨x7, rfl, hx7, hf7⟩ := hR
      obtain ⟨F7, hs⟩ := hf7.sat hs0 hb; clear hs0 hf7
      have hq7 : lsz TAttr.size x7.l = lsz TAttr.size t.attrs.l := by rw [hx7]
      have hle7 := Sl.Ok.le (hs.okow (x := x7) (F := F7) Q1)
      refine WL.p Q0 (Yl.fieldAddr fa84_3 Q0) ?_
      refine WL.s (Yr.storeB hs Q0 Q0 Q0 Q5 Q3 Q0 (by exact szf82)) ?_
      clear hs; rintro _ w hs
      refine WL.nil ?_
      refine At.blocknormal ?_
      refine At.then_ ?_
      refine WC.seq ?_
      refine WL.p Q0 (Yl.fieldAddr fa40_0 Q0) ?_
      refine WL.p Q0 (Yl.loadB sca37 Q0 hs Q1 Q0) ?_
      refine WL.p Q0 (Yl.loadAB agg84 Q0 hs Q1 Q0 Q0) ?_
      refine WL.r Q0 (Yr.buildSlice hs sll37 Q0 Q0 Q0 Q4 Q0) ?_
      clear hs; rintro _ w ⟨b8, rfl, hb, hs⟩; clear hb
      obtain ⟨K9_0, K9_1, hfl9, hs⟩ := PBuilder.split (hs.sel (D := [ow x4 F4]) Q2)
      try simp only [List.cons_append, List.nil_append] at hs
      replace hs := PNode.join (⟨t.name, ([] : Str), pd, x7⟩ : PNode) (hs.sel (D := [ow x7 F7]) Q2) (by first | exact (Ph.old h_t.name hs) | (refine Ph.old ?_ hs; assumption) ) (by first | exact (show WfS [] from Nat.zero_le _) | (refine Ph.old ?_ hs; assumption) ) (by first | exact (Ph.old (Sl.Ok.elem h_g.opn hpd) hs) | (refine Ph.old ?_ hs; assumption) | exact (show WfI (pd) from ⟨by omega, by omega⟩))
      try simp only [List.cons_append, List.nil_append] at hs
      refine WL.r Q0 (Yr.appendE (s := x4.nodes) (F := K9_0) (u := (⟨t.name, ([] : Str), pd, x7⟩ : PNode)) (G := F7) hs elt37 Q2 Q0 Q0 (hs.box_cells Q1) (by first | (unfold maxLen; omega) | omega | ((try simp only [lsz, strsz, List.length_map, PCache.lg, TCache.size, PPolicy.lg, TPolicy.size, List.length_cons, List.length_nil] at *); first | (unfold maxLen; omega) | omega)) (by first | (unfold maxLen; omega) | omega | ((try simp only [lsz, strsz, List.length_map, PCache.lg, TCache.size, PPolicy.lg, TPolicy.size, List.length_cons, List.length_nil] at *); first | (unfold maxLen; omega) | omega))) ?_
      clear hs; rintro _ w ⟨s10, F10, rfl, hl10, hs⟩
      refine WL.p Q0 (Yl.fieldAddr fa40_0 Q0) ?_
      refine WL.s (Yr.storeB hs Q0 Q0 Q0 Q5 Q3 Q0 (by exact szf37)) ?_
      clear hs; rintro _ w hs
      refine WL.next ?_
      refine WC.seq' ?_
      refine WC.seq ?_
      refine Qm ?_
      refine WL.next ?_
      refine WC.condS Q0 (fun h4 => ?_) (fun h4 => ?_)
      ·
       refine WC.region ?_
       refine WL.p Q0 (Yl.fieldAddr fa40_1 Q0) ?_
       refine WL.p Q0 (Yl.loadB sca38 Q0 hs Q1 Q0) ?_
       refine Qm ?_
       refine WL.r Q0 (Yr.buildSlice hs sll38 Q0 Q0 Q0 Q4 Q0) ?_
       clear hs; rintro _ w ⟨b11, rfl, hb, hs⟩; clear hb
       refine WL.r Q0 (Yr.append (s := x4.opn) (F := K9_1) hs elt38 Q2 Q0 Q0 rfl (xs := [(g.nodes.l.length : Int)]) (hs.box_cells Q1) (by intro x hx; obtain rfl := List.mem_singleton.1 hx; exact (by first | exact (show WfI ((g.nodes.l.length : Int)) from ⟨by omega, by omega⟩) | trivial | assumption | exact Flat.any (by assumption) | exact ⟨by omega, by omega⟩ | (show WfS _; unfold WfS; omega) | (show WfS _; unfold WfS; simp only [List.length_append, List.length_cons, List.length_nil] at *; omega) | (refine Ph.old ?_ hs; assumption))) (by first | (unfold maxLen; omega) | omega | ((try simp only [lsz, strsz, List.length_map, PCache.lg, TCache.size, PPolicy.lg, TPolicy.size, List.length_cons, List.length_nil] at *); first | (unfold maxLen; omega) | omega)) (by first | (unfold maxLen; omega) | omega | ((try simp only [lsz, strsz, List.length_map, PCache.lg, TCache.size, PPolicy.lg, TPolicy.size, List.length_cons, List.length_nil] at *); first | (unfold maxLen; omega) | omega))) ?_
       clear hs; rintro _ w ⟨s12, F12, rfl, hl12, hs⟩
       refine WL.p Q0 (Yl.fieldAddr fa40_1 Q0) ?_
       refine WL.s (Yr.storeB hs Q0 Q0 Q0 Q5 Q3 Q0 (by exact szf38)) ?_
       clear hs; rintro _ w hs
       refine WL.nil ?_
       refine At.then_ ?_
       refine WC.seq ?_
       refine WL.p Q0 (Yl.loadAB agg40 Q0 hs Q1 Q0 Q0) ?_
       refine Qm ?_
       refine WL.s (Yr.storeB hs Q0 Q0 Q0 Q5 Q3 Q0 (by exact szf40)) ?_
       clear hs; rintro _ w hs
       refine Qa ?_
       refine WL.next ?_
       refine WC.ret ?_
       refine fin2c rfl agg40 Q0 Q0 hs Q1 Q0 ?_
       obtain ⟨Fj13, hs⟩ : ∃ F, Sat _ _ _ (ow (⟨s10, s12⟩ : PBuilder) F :: _) := ⟨_, PBuilder.join (⟨s10, s12⟩ : PBuilder) (hs.sel (D := [ow s10 F10, ow s12 F12]) Q2) ⟩
       try simp only [List.cons_append, List.nil_append] at hs
       refine Ret.mk hs ?_
       refine ⟨(⟨s10, s12⟩ : PBuilder), _, rfl, (by first | exact (show WfI ((g.nodes.l.length : Int)) from ⟨by omega, by omega⟩) | trivial | assumption | exact Flat.any (by assumption) | exact ⟨by omega, by omega⟩ | (show WfS _; unfold WfS; omega) | (show WfS _; unfold WfS; simp only [List.length_append, List.length_cons, List.length_nil] at *; omega) | (refine Ph.old ?_ hs; assumption)), ?_, ?_⟩
       ·
        refine ⟨?_, ?_, ?_⟩
        · first
          | omega
          | (simp only [hl10, hl12, PBuilder.lg, TBuilder.size, PToken.lg, TToken.size, List.map_append, List.map_cons, List.map_nil, lsz_app, lsz_one, lsz_nil, PNode.lg, TNode.size, List.length_append, List.length_cons, List.length_nil]; omega)
        · first
          | exact hcl.2 ∘ (fun h => by omega)
          | (intro a1; (try simp only [hl10, hl12, PBuilder.lg, TBuilder.size, PToken.lg, TToken.size, List.map_append, List.map_cons, List.map_nil, lsz_app, lsz_one, lsz_nil, PNode.lg, TNode.size, List.length_append, List.length_cons, List.length_nil]); omega)
        · intro a1 a2 a3 a4
          first
          | omega
          | (exfalso; simp_all; done)
          | (simp only [hl10, hl12, PBuilder.lg, TBuilder.size, PToken.lg, TToken.size, List.map_append, List.map_cons, List.map_nil, lsz_app, lsz_one, lsz_nil, PNode.lg, TNode.size, List.length_append, List.length_cons, List.length_nil]; omega)
       ·
        exact hs.fresh (x := (⟨s10, s12⟩ : PBuilder)) (F := Fj13) Q1
      ·
       refine WC.skipn ?_
       refine WC.seq ?_
       refine WL.p Q0 (Yl.loadAB agg40 Q0 hs Q1 Q0 Q0) ?_
       refine Qm ?_
       refine WL.s (Yr.storeB hs Q0 Q0 Q0 Q5 Q3 Q0 (by exact szf40)) ?_
       clear hs; rintro _ w hs
       refine Qa ?_
       refine WL.next ?_
       refine WC.ret ?_
       refine fin2c rfl agg40 Q0 Q0 hs Q1 Q0 ?_
       obtain ⟨Fj14, hs⟩ : ∃ F, Sat _ _ _ (ow (⟨s10, x4.opn⟩ : PBuilder) F :: _) := ⟨_, PBuilder.join (⟨s10, x4.opn⟩ : PBuilder) (hs.sel (D := [ow s10 F10, ow x4.opn K9_1]) Q2) ⟩
       try simp only [List.cons_append, List.nil_append] at hs
       refine Ret.mk hs ?_
       refine ⟨(⟨s10, x4.opn⟩ : PBuilder), _, rfl, (by first | exact (show WfI ((g.nodes.l.length : Int)) from ⟨by omega, by omega⟩) | trivial | assumption | exact Flat.any (by assumption) | exact ⟨by omega, by omega⟩ | (show WfS _; unfold WfS; omega) | (show WfS _; unfold WfS; simp only [List.length_append, List.length_cons, List.length_nil] at *; omega) | (refine Ph.old ?_ hs; assumption)), ?_, ?_⟩
       ·
        refine ⟨?_, ?_, ?_⟩
        · first
          | omega
          | (simp only [hl10, PBuilder.lg, TBuilder.size, PToken.lg, TToken.size, List.map_append, List.map_cons, List.map_nil, lsz_app, lsz_one, lsz_nil, PNode.lg, TNode.size, List.length_append, List.length_cons, List.length_nil]; omega)
        · first
          | exact hcl.2 ∘ (fun h => by omega)
          | (intro a1; (try simp only [hl10, PBuilder.lg, TBuilder.size, PToken.lg, TToken.size, List.map_append, List.map_cons, List.map_nil, lsz_app, lsz_one, lsz_nil, PNode.lg, TNode.size, List.length_append, List.length_cons, List.length_nil]); omega)
        · intro a1 a2 a3 a4
          first
          | omega
          | (exfalso; simp_all; done)
          | (simp only [hl10, PBuilder.lg, TBuilder.size, PToken.lg, TToken.size, List.map_append, List.map_cons, List.map_nil, lsz_app, lsz_one, lsz_nil, PNode.lg, TNode.size, List.length_append, List.length_cons, List.length_nil]; omega)
       ·
        exact hs.fresh (x := (⟨s10, x4.opn⟩ : PBuilder)) (F := Fj14) Q1
     ·
      replace h3 := of_decide_eq_false h3
      refine WC.seq ?_
      refine WL.p Q0 (Yl.fieldAddr fa112_0 Q0) ?_
      refine WL.p Q0 (Yl.loadB sca3 Q0 hs Q1 Q0) ?_
      refine WL.p Q0 (Yl.eqi Q0 Q0) ?_
      refine Qm ?_
      refine WL.split (d := 74) Q0 (fun h4 => ?_) (fun h4 => ?_)
      ·
       replace h4 := of_decide_eq_true h4
       refine WL.run (d := 74) Q0 Q0 ?_
       refine WL.p Q0 (Yl.fieldAddr fa112_3 Q0) ?_
       refine WL.run (d := 74) Q0 Q0 ?_
       refine WL.p Q0 (Yl.loadB sca9 Q0 hs Q1 Q0) ?_
       refine WL.run (d := 74) Q0 Q0 ?_
       refine WL.p Q0 (Yl.nes Q0 Q0) ?_
       refine WL.p Q0 (Yl.pickT Q0 Q0) ?_
       refine Qa ?_
       refine WL.next ?_
       refine WC.condS Q0 (fun h5 => ?_) (fun h5 => ?_)
       ·
        replace h5 := not_eq_true h5
        replace h5 := of_decide_eq_false h5
        refine WC.region ?_
        refine WL.p Q0 (Yl.fieldAddr fa112_3 Q0) ?_
        refine WL.p Q0 (Yl.loadB sca9 Q0 hs Q1 Q0) ?_
        refine WL.p Q0 (Yl.fieldAddr fa84_1 Q0) ?_
        refine WL.s (Yr.storeB hs Q0 Q0 Q0 Q5 Q3 Q0 (by exact szf9)) ?_
        clear hs; rintro _ w hs
        refine WL.nil ?_
        refine At.blocknormal ?_
        refine At.then_ ?_
        refine WC.seq ?_
        refine WL.p Q0 (Yl.fieldAddr fa40_0 Q0) ?_
        refine WL.p Q0 (Yl.loadB sca37 Q0 hs Q1 Q0) ?_
        refine WL.p Q0 (Yl.loadAB agg84 Q0 hs Q1 Q0 Q0) ?_
        refine WL.r Q0 (Yr.buildSlice hs sll37 Q0 Q0 Q0 Q4 Q0) ?_
        clear hs; rintro _ w ⟨b15, rfl, hb, hs⟩; clear hb
        obtain ⟨K16_0, K16_1, hfl16, hs⟩ := PBuilder.split (hs.sel (D := [ow x4 F4]) Q2)
        try simp only [List.cons_append, List.nil_append] at hs
        replace hs := Sat.nilsl (α := TAttr) hs
        replace hs := PNode.join (⟨([] : Str), t.text, pd, ⟨[], none, 0⟩⟩ : PNode) (hs.sel (D := [ow (⟨[], none, 0⟩ : (Sl TAttr)) []]) Q2) (by first | exact (show WfS [] from Nat.zero_le _) | (refine Ph.old ?_ hs; assumption) ) (by first | exact (Ph.old h_t.text hs) | (refine Ph.old ?_ hs; assumption) ) (by first | exact (Ph.old (Sl.Ok.elem h_g.opn hpd) hs) | (refine Ph.old ?_ hs; assumption) | exact (show WfI (pd) from ⟨by omega, by omega⟩))
        try simp only [List.cons_append, List.nil_append] at hs
        refine WL.r Q0 (Yr.appendE (s := x4.nodes) (F := K16_0) (u := (⟨([] : Str), t.text, pd, ⟨[], none, 0⟩⟩ : PNode)) (G := []) hs elt37 Q2 Q0 Q0 (hs.box_cells Q1) (by first | (unfold maxLen; omega) | omega | ((try simp only [lsz, strsz, List.length_map, PCache.lg, TCache.size, PPolicy.lg, TPolicy.size, List.length_cons, List.length_nil] at *); first | (unfold maxLen; omega) | omega)) (by first | (unfold maxLen; omega) | omega | ((try simp only [lsz, strsz, List.length_map, PCache.lg, TCache.size, PPolicy.lg, TPolicy.size, List.length_cons, List.length_nil] at *); first | (unfold maxLen; omega) | omega))) ?_
        clear hs; rintro _ w ⟨s17, F17, rfl, hl17, hs⟩
        refine WL.p Q0 (Yl.fieldAddr fa40_0 Q0) ?_
        refine WL.s (Yr.storeB hs Q0 Q0 Q0 Q5 Q3 Q0 (by exact szf37)) ?_
        clear hs; rintro _ w hs
        refine WL.next ?_
        refine WC.seq' ?_
        refine WC.seq ?_
        refine Qm ?_
        refine WL.next ?_
        refine WC.condS Q0 (fun h6 => ?_) (fun h6 => ?_)
        ·
         refine WC.region ?_
         refine WL.p Q0 (Yl.fieldAddr fa40_1 Q0) ?_
         refine WL.p Q0 (Yl.loadB sca38 Q0 hs Q1 Q0) ?_
         refine Qm ?_
         refine WL.r Q0 (Yr.buildSlice hs sll38 Q0 Q0 Q0 Q4 Q0) ?_
         clear hs; rintro _ w ⟨b18, rfl, hb, hs⟩; clear hb
         refine WL.r Q0 (Yr.append (s := x4.opn) (F := K16_1) hs elt38 Q2 Q0 Q0 rfl (xs := [(g.nodes.l.length : Int)]) (hs.box_cells Q1) (by intro x hx; obtain rfl := List.mem_singleton.1 hx; exact (by first | exact (show WfI ((g.nodes.l.length : Int)) from ⟨by omega, by omega⟩) | trivial | assumption | exact Flat.any (by assumption) | exact ⟨by omega, by omega⟩ | (show WfS _; unfold WfS; omega) | (show WfS _; unfold WfS; simp only [List.length_append, List.length_cons, List.length_nil] at *; omega) | (refine Ph.old ?_ hs; assumption))) (by first | (unfold maxLen; omega) | omega | ((try simp only [lsz, strsz, List.length_map, PCache.lg, TCache.size, PPolicy.lg, TPolicy.size, List.length_cons, List.length_nil] at *); first | (unfold maxLen; omega) | omega)) (by first | (unfold maxLen; omega) | omega | ((try simp only [lsz, strsz, List.length_map, PCache.lg, TCache.size, PPolicy.lg, TPolicy.size, List.length_cons, List.length_nil] at *); first | (unfold maxLen; omega) | omega))) ?_
         clear hs; rintro _ w ⟨s19, F19, rfl, hl19, hs⟩
         refine WL.p Q0 (Yl.fieldAddr fa40_1 Q0) ?_
         refine WL.s (Yr.storeB hs Q0 Q0 Q0 Q5 Q3 Q0 (by exact szf38)) ?_
         clear hs; rintro _ w hs
         refine WL.nil ?_
         refine At.then_ ?_
         refine WC.seq ?_
         refine WL.p Q0 (Yl.loadAB agg40 Q0 hs Q1 Q0 Q0) ?_
         refine Qm ?_
         refine WL.s (Yr.storeB hs Q0 Q0 Q0 Q5 Q3 Q0 (by exact szf40)) ?_
         clear hs; rintro _ w hs
         refine Qa ?_
         refine WL.next ?_
         refine WC.ret ?_
         refine fin2c rfl agg40 Q0 Q0 hs Q1 Q0 ?_
         obtain ⟨Fj20, hs⟩ : ∃ F, Sat _ _ _ (ow (⟨s17, s19⟩ : PBuilder) F :: _) := ⟨_, PBuilder.join (⟨s17, s19⟩ : PBuilder) (hs.sel (D := [ow s17 F17, ow s19 F19]) Q2) ⟩
         try simp only [List.cons_append, List.nil_append] at hs
         refine Ret.mk hs ?_
         refine ⟨(⟨s17, s19⟩ : PBuilder), _, rfl, (by first | exact (show WfI ((g.nodes.l.length : Int)) from ⟨by omega, by omega⟩) | trivial | assumption | exact Flat.any (by assumption) | exact ⟨by omega, by omega⟩ | (show WfS _; unfold WfS; omega) | (show WfS _; unfold WfS; simp only [List.length_append, List.length_cons, List.length_nil] at *; omega) | (refine Ph.old ?_ hs; assumption)), ?_, ?_⟩
         ·
          refine ⟨?_, ?_, ?_⟩
          · first
            | omega
            | (simp only [hl17, hl19, PBuilder.lg, TBuilder.size, PToken.lg, TToken.size, List.map_append, List.map_cons, List.map_nil, lsz_app, lsz_one, lsz_nil, PNode.lg, TNode.size, List.length_append, List.length_cons, List.length_nil]; omega)
          · first
            | exact hcl.2 ∘ (fun h => by omega)
            | (intro a1; (try simp only [hl17, hl19, PBuilder.lg, TBuilder.size, PToken.lg, TToken.size, List.map_append, List.map_cons, List.map_nil, lsz_app, lsz_one, lsz_nil, PNode.lg, TNode.size, List.length_append, List.length_cons, List.length_nil]); omega)
          · intro a1 a2 a3 a4
            first
            | omega
            | (exfalso; simp_all; done)
            | (simp only [hl17, hl19, PBuilder.lg, TBuilder.size, PToken.lg, TToken.size, List.map_append, List.map_cons, List.map_nil, lsz_app, lsz_one, lsz_nil, PNode.lg, TNode.size, List.length_append, List.length_cons, List.length_nil]; omega)
         ·
          exact hs.fresh (x := (⟨s17, s19⟩ : PBuilder)) (F := Fj20) Q1
        ·
         refine WC.skipn ?_
         refine WC.seq ?_
         refine WL.p Q0 (Yl.loadAB agg40 Q0 hs Q1 Q0 Q0) ?_
         refine Qm ?_
         refine WL.s (Yr.storeB hs Q0 Q0 Q0 Q5 Q3 Q0 (by exact szf40)) ?_
         clear hs; rintro _ w hs
         refine Qa ?_
         refine WL.next ?_
         refine WC.ret ?_
         refine fin2c rfl agg40 Q0 Q0 hs Q1 Q0 ?_
         obtain ⟨Fj21, hs⟩ : ∃ F, Sat _ _ _ (ow (⟨s17, x4.opn⟩ : PBuilder) F :: _) := ⟨_, PBuilder.join (⟨s17, x4.opn⟩ : PBuilder) (hs.sel (D := [ow s17 F17, ow x4.opn K16_1]) Q2) ⟩
         try simp only [List.cons_append, List.nil_append] at hs
         refine Ret.mk hs ?_
         refine ⟨(⟨s17, x4.opn⟩ : PBuilder), _, rfl, (by first | exact (show WfI ((g.nodes.l.length : Int)) from ⟨by omega, by omega⟩) | trivial | assumption | exact Flat.any (by assumption) | exact ⟨by omega, by omega⟩ | (show WfS _; unfold WfS; omega) | (show WfS _; unfold WfS; simp only [List.length_append, List.length_cons, List.length_nil] at *; omega) | (refine Ph.old ?_ hs; assumption)), ?_, ?_⟩
         ·
          refine ⟨?_, ?_, ?_⟩
          · first
            | omega
            | (simp only [hl17, PBuilder.lg, TBuilder.size, PToken.lg, TToken.size, List.map_append, List.map_cons, List.map_nil, lsz_app, lsz_one, lsz_nil, PNode.lg, TNode.size, List.length_append, List.length_cons, List.length_nil]; omega)
          · first
            | exact hcl.2 ∘ (fun h => by omega)
            | (intro a1; (try simp only [hl17, PBuilder.lg, TBuilder.size, PToken.lg, TToken.size, List.map_append, List.map_cons, List.map_nil, lsz_app, lsz_one, lsz_nil, PNode.lg, TNode.size, List.length_append, List.length_cons, List.length_nil]); omega)
          · intro a1 a2 a3 a4
            first
            | omega
            | (exfalso; simp_all; done)
            | (simp only [hl17, PBuilder.lg, TBuilder.size, PToken.lg, TToken.size, List.map_append, List.map_cons, List.map_nil, lsz_app, lsz_one, lsz_nil, PNode.lg, TNode.size, List.length_append, List.length_cons, List.length_nil]; omega)
         ·
          exact hs.fresh (x := (⟨s17, x4.opn⟩ : PBuilder)) (F := Fj21) Q1
       ·
        replace h5 := not_eq_false h5
        replace h5 := of_decide_eq_true h5
        refine WC.seq ?_
        refine WL.p Q0 (Yl.loadAB agg40 Q0 hs Q1 Q0 Q0) ?_
        refine WL.s (Yr.storeB hs Q0 Q0 Q0 Q5 Q3 Q0 (by exact szf40)) ?_
        clear hs; rintro _ w hs
        refine Qa ?_
        refine WL.next ?_
        refine WC.ret ?_
        refine At.blockret ?_
        refine At.thenret ?_
        refine fin2c rfl agg40 Q0 Q0 hs Q1 Q0 ?_
        refine Ret.mk hs ?_
        refine ⟨x4, _, rfl, (by first | exact (show WfI -1 from ⟨by omega, by omega⟩) | trivial | assumption | exact Flat.any (by assumption) | exact ⟨by omega, by omega⟩ | (show WfS _; unfold WfS; omega) | (show WfS _; unfold WfS; simp only [List.length_append, List.length_cons, List.length_nil] at *; omega) | (refine Ph.old ?_ hs; assumption)), ?_, ?_⟩
        ·
         refine ⟨?_, ?_, ?_⟩
         · first
           | omega
           | (simp only [PBuilder.lg, TBuilder.size, PToken.lg, TToken.size, List.map_append, List.map_cons, List.map_nil, lsz_app, lsz_one, lsz_nil, PNode.lg, TNode.size, List.length_append, List.length_cons, List.length_nil]; omega)
         · first
           | exact hcl.2 ∘ (fun h => by omega)
           | (intro a1; (try simp only [PBuilder.lg, TBuilder.size, PToken.lg, TToken.size, List.map_append, List.map_cons, List.map_nil, lsz_app, lsz_one, lsz_nil, PNode.lg, TNode.size, List.length_append, List.length_cons, List.length_nil]); omega)
         · intro a1 a2 a3 a4
           first
           | omega
           | (exfalso; simp_all; done)
           | (simp only [PBuilder.lg, TBuilder.size, PToken.lg, TToken.size, List.map_append, List.map_cons, List.map_nil, lsz_app, lsz_one, lsz_nil, PNode.lg, TNode.size, List.length_append, List.length_cons, List.length_nil]; omega)
        ·
         exact hs.fresh (x := x4) (F := F4) Q1
      ·
       replace h4 := of_decide_eq_false h4
       refine WL.skip (d := 74) Q0 Q0 Q0 Q0 ?_
       refine WL.skip (d := 74) Q0 Q0 Q0 Q0 ?_
       refine WL.skip (d := 74) Q0 Q0 Q0 Q0 ?_
       refine WL.p Q0 (Yl.pickF Q0 Q0) ?_
       refine Qa ?_
       refine WL.next ?_
       refine WC.condF Q0 ?_
       refine WC.seq ?_
       refine WL.p Q0 (Yl.loadAB agg40 Q0 hs Q1 Q0 Q0) ?_
       refine WL.s (Yr.storeB hs Q0 Q0 Q0 Q5 Q3 Q0 (by exact szf40)) ?_
       clear hs; rintro _ w hs
       refine Qa ?_
       refine WL.next ?_
       refine WC.ret ?_
       refine At.blockret ?_
       refine At.thenret ?_
       refine fin2c rfl agg40 Q0 Q0 hs Q1 Q0 ?_
       refine Ret.mk hs ?_
       refine ⟨x4, _, rfl, (by first | exact (show WfI -1 from ⟨by omega, by omega⟩) | trivial | assumption | exact Flat.any (by assumption) | exact ⟨by omega, by omega⟩ | (show WfS _; unfold WfS; omega) | (show WfS _; unfold WfS; simp only [List.length_append, List.length_cons, List.length_nil] at *; omega) | (refine Ph.old ?_ hs; assumption)), ?_, ?_⟩
       ·
        refine ⟨?_, ?_, ?_⟩
        · first
          | omega
          | (simp only [PBuilder.lg, TBuilder.size, PToken.lg, TToken.size, List.map_append, List.map_cons, List.map_nil, lsz_app, lsz_one, lsz_nil, PNode.lg, TNode.size, List.length_append, List.length_cons, List.length_nil]; omega)
        · first
          | exact hcl.2 ∘ (fun h => by omega)
          | (intro a1; (try simp only [PBuilder.lg, TBuilder.size, PToken.lg, TToken.size, List.map_append, List.map_cons, List.map_nil, lsz_app, lsz_one, lsz_nil, PNode.lg, TNode.size, List.length_append, List.length_cons, List.length_nil]); omega)
        · intro a1 a2 a3 a4
          first
          | omega
          | (exfalso; simp_all; done)
          | (simp only [PBuilder.lg, TBuilder.size, PToken.lg, TToken.size, List.map_append, List.map_cons, List.map_nil, lsz_app, lsz_one, lsz_nil, PNode.lg, TNode.size, List.length_append, List.length_cons, List.length_nil]; omega)
       ·
        exact hs.fresh (x := x4) (F := F4) Q1

theorem c_spec_AddTokens (g : PBuilder) (l : (Sl PToken)) (w : World) (h_g : Ph.ok w g) (h_l : Ph.ok w l) (hbb : g.lg.size + 2 * lsz TToken.size (l.l.map PToken.lg) ≤ 1040000) : Calls Tryz.prog 99 [.agg #[Sl.v g.nodes, Sl.v g.opn], Sl.v l].toArray w (Ret w (fun v w' => ∃ (x : PBuilder), v = .agg (Ph.enc x).toArray ∧ (True) ∧ (x.lg.size ≤ g.lg.size + 2 * lsz TToken.size (l.l.map PToken.lg) ∧ (0 < g.opn.l.length → 0 < x.opn.l.length)) ∧ Fresh w x w')) := by
 have hw := h_l.lt
 refine enterN 25 Tryz.func99 rfl rfl rfl ?_
 have hs := Sat.start w
 refine WC.seq ?_
 refine WL.r Q0 (Yr.box hs Q0 Q0) ?_
 clear hs; rintro _ w ⟨b1, rfl, hb, hs⟩; clear hb
 refine WL.r Q0 (Yr.alloc hs zt40) ?_
 clear hs; rintro _ w ⟨b2, rfl, hb, hs⟩; clear hb
 refine WL.next ?_
 refine WC.seq ?_
 refine WL.p Q0 (Yl.loadAB agg40 Q0 hs Q1 Q0 Q0) ?_
 refine WL.call hs Q0 (Yc.func Q0 fn55) (c_spec_l6Copy _ _ (Ph.old h_g hs) Q7) ?_
 have hs0 := hs; clear hs; intro v w hb hR hs; clear hs
 obtain ⟨x3, rfl, hx3, hf3⟩ := hR
 obtain ⟨F3, hs⟩ := hf3.sat hs0 hb; clear hs0 hf3
 refine WL.r Q0 (Yr.alloc hs zt40) ?_
 clear hs; rintro _ w ⟨b4, rfl, hb, hs⟩; clear hb
 refine WL.s (Yr.storeB hs Q0 Q0 Q0 Q5 Q3 Q0 (by exact szf40)) ?_
 clear hs; rintro _ w hs
 refine WL.next ?_
 refine WC.seq' ?_
 refine WC.seq ?_
 refine Qa ?_
 refine WL.next ?_
 refine WC.block ?_
 refine WC.loopC (ι := Nat × PBuilder × List Nat) (fun ⟨k, q, F⟩ => l.l.length - k) (fun ⟨k, q, F⟩ => [(6, I (k : Int))]) (fun ⟨k, q, F⟩ => [box b4 40 [Sl.v q.nodes, Sl.v q.opn], ow q F]) (fun ⟨k, q, F⟩ => k ≤ l.l.length ∧ q.lg.size ≤ g.lg.size + 2 * lsz TToken.size ((l.l.take k).map PToken.lg) ∧ (0 < g.opn.l.length → 0 < q.opn.l.length)) [(0, _), (1, _), (2, _), (4, _), (5, _)] (0, x3, F3) (hs.sel (D := [box b4 40 _, ow x3 F3]) Q2) ⟨by rfl, by rfl, by rfl, by rfl, by rfl, trivial⟩ ⟨by rfl, trivial⟩ ?_ ?_
 ·
  exact ⟨Nat.zero_le _, by rw [hx3]; exact Nat.le_add_right _ _, by rw [(lg_nodes hx3).2.1]; exact id⟩
 clear hs; rintro ⟨k, q, F⟩ w ⟨hJ1, hJ2, hJ3⟩ hs
 simp only [List.cons_append, List.nil_append] at hs
 refine WC.seq' ?_
 refine WC.seq ?_
 refine Qm ?_
 refine Qm ?_
 refine WL.p Q0 (Yl.len_sl slu141 Q0) ?_
 refine WL.p Q0 (Yl.lss Q0 Q0) ?_
 refine WL.next ?_
 refine WC.condS Q0 (fun h1 => ?_) (fun h1 => ?_)
 ·
  replace h1 := of_decide_eq_true h1
  obtain ⟨d, hd⟩ := exists_get (l := l.l) (k := k) Q7
  refine WC.skipn ?_
  refine WC.seq' ?_
  refine WC.block ?_
  refine WC.any2 (c := box b4 _ _) mixed hs (by repeat (first | exact Ext.here | apply Ext.there)) ?_
  clear hs; intro w hs
  refine WA.p (i := 1) Q0 Q6 Q6 Q6 Q0 (hs.only Q2) (fun w hs => Yl.move Q0) ?_
  refine WA.p (i := 2) Q0 Q6 Q6 Q6 Q0 (hs.only Q2) (fun w hs => Yl.move Q0) ?_
  refine WA.p (i := 3) Q0 Q6 Q6 Q6 Q0 (hs.only Q2) (fun w hs => Yl.indexAddr slt141 Q0 Q0 (Ph.old h_l hs) Q0 (hd)) ?_
  refine WA.p (i := 4) Q0 Q6 Q6 Q6 Q0 (hs.only Q2) (fun w hs => Yl.loadA agg112 Q0 (Sl.Ok.at_ (Ph.old h_l hs) (by assumption)).2 Q0) ?_
  refine WA.r (i := 0) Q6 Q0 Q0 (Yl.yr (Yl.loadAB agg40 Q0 hs Q1 Q0 Q0)) (by rintro _ _ ⟨rfl, rfl⟩; exact hs.only Q2) ?_
  rintro _ _ ⟨rfl, rfl⟩
  refine WA.callx (i := 5) hs (fun _ hs => hs.only Q2) Q6 Q0 Q0 (Yc.func Q0 fn71) (c_spec_AddToken _ _ _ ⟨(hs.okow (x := q) (F := F) Q1).nodes, (hs.okow (x := q) (F := F) Q1).opn⟩ (Ph.old (Sl.Ok.elem h_l hd) hs) (by have := tok_take_le l.l k; omega) (by have := tok_one hd; omega)) ?_
  clear hs; intro v w ho hR hs
  obtain ⟨x5_x, x5_r, rfl, hokx5_r, hx5, hf5⟩ := hR
  obtain ⟨F5, hs⟩ := hs.addF ho hf5
  clear ho hf5
  refine WA.p (i := 6) Q0 Q6 Q6 Q6 Q0 (hs.only Q2) (fun w hs => Yl.move Q0) ?_
  refine WA.p (i := 7) Q0 Q6 Q6 Q6 Q0 (hs.only Q2) (fun w hs => Yl.extract Q0 Q0) ?_
  refine WA.p (i := 8) Q0 Q6 Q6 Q6 Q0 (hs.only Q2) (fun w hs => Yl.extract Q0 Q0) ?_
  refine WA.s (i := 9) Q6 Q0 (Yr.storeB hs Q0 Q0 Q0 Q5 Q3 Q0 (by exact szf40)) (by rintro _ w hs; exact hs.only Q2) ?_
  clear hs; rintro _ w hs
  refine WA.done Q6 ?_
  refine At.blocknormal ?_
  refine At.then_ ?_
  refine WC.region ?_
  refine Qm ?_
  refine WL.p Q0 (Yl.add Q0 Q0 Q7) ?_
  refine Qa ?_
  refine WL.nil ?_
  refine At.roundC (k + 1, _, _) (hs.only Q2) ⟨by rfl, by rfl, by rfl, by rfl, by rfl, trivial⟩ ⟨by rfl, trivial⟩ ?_ ?_
  ·
   show l.l.length - (k + 1) < l.l.length - k
   omega
  ·
   have h9 := tok_take hd
   refine ⟨by omega, ?_, ?_⟩
   · have h8 := hx5.1
     omega
   · exact fun h => hx5.2.1 (hJ3 h)
 ·
  replace h1 := of_decide_eq_false h1
  refine WC.exit ?_
  refine At.thenexit ?_
  refine At.thenexit ?_
  refine At.blockexit ?_
  refine At.then_ ?_
  refine WC.seq ?_
  refine WL.p Q0 (Yl.loadAB agg40 Q0 hs Q1 Q0 Q0) ?_
  refine WL.s (Yr.storeB hs Q0 Q0 Q0 Q5 Q3 Q0 (by exact szf40)) ?_
  clear hs; rintro _ w hs
  refine WL.next ?_
  refine WC.ret ?_
  refine fin1c rfl agg40 Q0 hs Q1 Q0 ?_
  refine Ret.mk hs ?_
  refine ⟨q, rfl, trivial, ?_, ?_⟩
  ·
   have h9 := tok_take_le l.l k
   exact ⟨by omega, hJ3⟩
  ·
   exact hs.fresh (x := q) (F := F) Q1

theorem c_spec_NewBuilder  (w : World)   : Calls Tryz.prog 100 [].toArray w (Ret w (fun v w' => ∃ (b : PBuilder), v = .agg (Ph.enc b).toArray ∧ (True) ∧ (b.lg.size ≤ 20 ∧ 0 < b.opn.l.length ∧ b.nodes.l.length ≤ 40) ∧ Fresh w b w')) := by
 refine enterN 5 Tryz.func100 rfl rfl rfl ?_
 have hs := Sat.start w
 refine WC.seq ?_
 refine WL.r Q0 (Yr.alloc hs zt40) ?_
 clear hs; rintro _ w ⟨b1, rfl, hb, hs⟩; clear hb
 refine WL.next ?_
 refine WC.seq ?_
 refine WL.p Q0 (Yl.build bt84 Q0 Q4) ?_
 refine WL.r Q0 (Yr.buildSlice hs sll37 Q0 Q0 Q0 Q4 Q0) ?_
 clear hs; rintro _ w ⟨b2, rfl, hb, hs⟩; clear hb
 refine WL.r Q0 (Yr.buildSlice hs sll38 Q0 Q0 Q0 Q4 Q0) ?_
 clear hs; rintro _ w ⟨b3, rfl, hb, hs⟩; clear hb
 refine WL.p Q0 (Yl.build bt40 Q0 Q4) ?_
 refine WL.s (Yr.storeB hs Q0 Q0 Q0 Q5 Q3 Q0 (by exact szf40)) ?_
 clear hs; rintro _ w hs
 refine WL.next ?_
 refine WC.ret ?_
 refine fin1c rfl agg40 Q0 hs Q1 Q0 ?_
 replace hs := Sat.boxow (l := ([(⟨([112, 97, 103, 101] : Str), ([] : Str), (-1), ⟨[], none, 0⟩⟩ : PNode)] : List PNode)) (hs.sel (D := [box b2 _ _]) Q2) rfl rfl (by simp [maxLen]) (ownL_one (show Own.own _ (⟨([112, 97, 103, 101] : Str), ([] : Str), (-1), ⟨[], none, 0⟩⟩ : PNode) [] from ⟨⟨(by first | exact Nat.zero_le _ | exact ⟨by decide, by decide⟩ | exact (by first | exact (show WfS [112, 97, 103, 101] from (by unfold WfS; simp)) | trivial | assumption | exact Flat.any (by assumption) | exact ⟨by omega, by omega⟩ | (show WfS _; unfold WfS; omega) | (show WfS _; unfold WfS; simp only [List.length_append, List.length_cons, List.length_nil] at *; omega) | (refine Ph.old ?_ hs; assumption)) | exact ⟨by omega, by omega⟩), (by first | exact Nat.zero_le _ | exact ⟨by decide, by decide⟩ | exact (by first | exact (show WfS [] from Nat.zero_le _) | trivial | assumption | exact Flat.any (by assumption) | exact ⟨by omega, by omega⟩ | (show WfS _; unfold WfS; omega) | (show WfS _; unfold WfS; simp only [List.length_append, List.length_cons, List.length_nil] at *; omega) | (refine Ph.old ?_ hs; assumption)) | exact ⟨by omega, by omega⟩), (by first | exact Nat.zero_le _ | exact ⟨by decide, by decide⟩ | exact (by first | exact (show WfI -1 from ⟨by omega, by omega⟩) | trivial | assumption | exact Flat.any (by assumption) | exact ⟨by omega, by omega⟩ | (show WfS _; unfold WfS; omega) | (show WfS _; unfold WfS; simp only [List.length_append, List.length_cons, List.length_nil] at *; omega) | (refine Ph.old ?_ hs; assumption)) | exact ⟨by omega, by omega⟩), trivial⟩, [], nilOwn _, rfl⟩))
 try simp only [List.cons_append, List.nil_append] at hs
 replace hs := Sat.boxow (l := ([0] : List Int)) (hs.sel (D := [box b3 _ _]) Q2) rfl rfl (by simp [maxLen]) (ownL_mk_flat (by intro x hx; obtain rfl := List.mem_singleton.1 hx; first | exact ⟨by omega, by omega⟩ | exact (by first | exact (show WfI 0 from ⟨by omega, by omega⟩) | trivial | assumption | exact Flat.any (by assumption) | exact ⟨by omega, by omega⟩ | (show WfS _; unfold WfS; omega) | (show WfS _; unfold WfS; simp only [List.length_append, List.length_cons, List.length_nil] at *; omega) | (refine Ph.old ?_ hs; assumption))))
 try simp only [List.cons_append, List.nil_append] at hs
 obtain ⟨Fj4, hs⟩ : ∃ F, Sat _ _ _ (ow (⟨(⟨[(⟨([112, 97, 103, 101] : Str), ([] : Str), (-1), ⟨[], none, 0⟩⟩ : PNode)], some ⟨b2, 0, none⟩, 1⟩ : Sl PNode), (⟨[0], some ⟨b3, 0, none⟩, 1⟩ : Sl Int)⟩ : PBuilder) F :: _) := ⟨_, PBuilder.join (⟨(⟨[(⟨([112, 97, 103, 101] : Str), ([] : Str), (-1), ⟨[], none, 0⟩⟩ : PNode)], some ⟨b2, 0, none⟩, 1⟩ : Sl PNode), (⟨[0], some ⟨b3, 0, none⟩, 1⟩ : Sl Int)⟩ : PBuilder) (hs.sel (D := [ow (⟨[(⟨([112, 97, 103, 101] : Str), ([] : Str), (-1), ⟨[], none, 0⟩⟩ : PNode)], some ⟨b2, 0, none⟩, 1⟩ : Sl PNode) [b2], ow (⟨[0], some ⟨b3, 0, none⟩, 1⟩ : Sl Int) [b3]]) Q2) ⟩
 try simp only [List.cons_append, List.nil_append] at hs
 refine Ret.mk hs ?_
 refine ⟨(⟨(⟨[(⟨([112, 97, 103, 101] : Str), ([] : Str), (-1), ⟨[], none, 0⟩⟩ : PNode)], some ⟨b2, 0, none⟩, 1⟩ : Sl PNode), (⟨[0], some ⟨b3, 0, none⟩, 1⟩ : Sl Int)⟩ : PBuilder), rfl, trivial, ?_, ?_⟩
 ·
  repeat' apply And.intro
  all_goals (try dsimp only)
  all_goals first | trivial | assumption | omega | ((try simp only [List.length_append, List.length_cons, List.length_nil, lsz_app, lsz_one, lsz_cons, lsz_nil, TAddr.size, TResponse.size, TRequest.size, TPolicy.size, TEntry.size, TCache.size, strsz, TLine.size, TSent.size, TServer.size, TFile.size, List.map_append, List.map_cons, List.map_nil, PServer.lg, PToken.lg, TToken.size, PNode.lg, TNode.size, TAttr.size, PBuilder.lg, TBuilder.size, TTokenizer.size, List.length_take, List.length_drop, PPolicy.lg, PCache.lg] at *); first | omega | assumption)
 ·
  exact hs.fresh (x := (⟨(⟨[(⟨([112, 97, 103, 101] : Str), ([] : Str), (-1), ⟨[], none, 0⟩⟩ : PNode)], some ⟨b2, 0, none⟩, 1⟩ : Sl PNode), (⟨[0], some ⟨b3, 0, none⟩, 1⟩ : Sl Int)⟩ : PBuilder)) (F := Fj4) Q1

theorem c_spec_l5Index (s : Str) (by_ : UInt8) (w : World) (h_s : Ph.ok w s)  : Calls Tryz.prog 147 [S s, U8 by_].toArray w (RetP w (I (idxB by_ s : Int))) := by
 have hw : s.length ≤ 9223372036854775807 := h_s
 refine enterN 20 Tryz.func147 rfl rfl rfl ?_
 have hs := Sat.start w
 refine WC.seq ?_
 refine Qa ?_
 refine WL.next ?_
 refine WC.seq' ?_
 refine WC.seq ?_
 refine Qa ?_
 refine WL.next ?_
 refine WC.block ?_
 refine WC.loopC (ι := Nat) (fun k => s.length - k) (fun k => [(5, I (k : Int))]) (fun _ => []) (fun k => (k ≤ s.length ∧ idxB by_ s = k + idxB by_ (s.drop k))) [(0, _), (1, _)] 0 (hs) ⟨by rfl, by rfl, trivial⟩ ⟨by rfl, trivial⟩ ?_ ?_
 ·
  simp
 clear hs; rintro k w hJ hs
 simp only [List.nil_append] at hs
 refine WC.seq' ?_
 refine WC.seq ?_
 refine Qm ?_
 refine Qm ?_
 refine WL.p Q0 (Yl.len_str str9 Q0) ?_
 refine WL.p Q0 (Yl.lss Q0 Q0) ?_
 refine WL.next ?_
 refine WC.condS Q0 (fun h1 => ?_) (fun h1 => ?_)
 ·
  replace h1 := of_decide_eq_true h1
  obtain ⟨d, hd⟩ := exists_get (l := s) (k := k) Q7
  rw [drop_cons hd] at hJ
  refine WC.skipn ?_
  refine WC.seq' ?_
  refine WC.block ?_
  refine WC.seq ?_
  refine Qm ?_
  refine Qm ?_
  refine WL.p Q0 (Yl.index str9 Q0 Q0 Q0 (by first | assumption | exact List.getElem?_eq_getElem Q7)) ?_
  refine Qm ?_
  refine WL.p Q0 (Yl.eqi Q0 Q0) ?_
  refine WL.next ?_
  refine WC.condS Q0 (fun h2 => ?_) (fun h2 => ?_)
  ·
   replace h2 := of_decide_eq_true h2
   refine WC.seq ?_
   refine Qm ?_
   refine Qa ?_
   refine WL.next ?_
   refine WC.ret ?_
   refine At.blockret ?_
   refine At.thenret ?_
   refine At.thenret ?_
   refine At.blockret ?_
   refine At.thenret ?_
   refine fin1' rfl Q0 ?_
   refine RetP.mk hs ?_
   obtain ⟨hJ0, hJ⟩ := hJ
   first
    | (rw [hJ, idxB_here (UInt8.toNat_inj.1 Q7)]; simp; done)
    | (rw [hJ, show idxB by_ [] = 0 from rfl]; exact congrArg I Q7)
  ·
   replace h2 := of_decide_eq_false h2
   refine WC.skip ?_
   refine At.blocknormal ?_
   refine At.then_ ?_
   refine WC.region ?_
   refine Qm ?_
   refine WL.p Q0 (Yl.add Q0 Q0 Q7) ?_
   refine Qa ?_
   refine WL.nil ?_
   refine At.roundC (k + 1) (hs.only Q2) ⟨by rfl, by rfl, trivial⟩ ⟨by rfl, trivial⟩ ?_ ?_
   ·
    omega
   ·
    exact ⟨by omega, by rw [hJ.2, idxB_next (by intro h9; subst h9; omega)]; omega⟩
 ·
  replace h1 := of_decide_eq_false h1
  rw [drop_out (l := s) Q7] at hJ
  refine WC.exit ?_
  refine At.thenexit ?_
  refine At.thenexit ?_
  refine At.blockexit ?_
  refine At.then_ ?_
  refine WC.seq ?_
  refine Qm ?_
  refine WL.p Q0 (Yl.len_str str9 Q0) ?_
  refine Qa ?_
  refine WL.next ?_
  refine WC.ret ?_
  refine fin1' rfl Q0 ?_
  refine RetP.mk hs ?_
  obtain ⟨hJ0, hJ⟩ := hJ
  first
   | (rw [hJ, idxB_here (UInt8.toNat_inj.1 Q7)]; simp; done)
   | (rw [hJ, show idxB by_ [] = 0 from rfl]; exact congrArg I Q7)

theorem c_spec_IsValue (s : Str) (w : World) (h_s : Ph.ok w s)  : Calls Tryz.prog 161 [S s].toArray w (RetP w (Bo (isValue s))) := by
 have hw : s.length ≤ 9223372036854775807 := h_s
 refine enterN 41 Tryz.func161 rfl rfl rfl ?_
 have hs := Sat.start w
 refine WC.seq ?_
 refine Qa ?_
 refine WL.next ?_
 refine WC.seq' ?_
 refine WC.seq ?_
 refine Qa ?_
 refine WL.next ?_
 refine WC.block ?_
 refine WC.loopC (ι := Nat) (fun k => s.length - k) (fun k => [(3, I (k : Int))]) (fun _ => []) (fun k => s.all valueByte = (s.drop k).all valueByte) [(0, _)] 0 (hs) ⟨by rfl, trivial⟩ ⟨by rfl, trivial⟩ ?_ ?_
 ·
  simp
 clear hs; rintro k w hJ hs
 simp only [List.nil_append] at hs
 refine WC.seq' ?_
 refine WC.seq ?_
 refine Qm ?_
 refine Qm ?_
 refine WL.p Q0 (Yl.len_str str9 Q0) ?_
 refine WL.p Q0 (Yl.lss Q0 Q0) ?_
 refine WL.next ?_
 refine WC.condS Q0 (fun h1 => ?_) (fun h1 => ?_)
 ·
  replace h1 := of_decide_eq_true h1
  obtain ⟨d, hd⟩ := exists_get (l := s) (k := k) Q7
  rw [drop_cons hd] at hJ
  refine WC.skipn ?_
  refine WC.seq' ?_
  refine WC.block ?_
  refine WC.seq ?_
  refine Qm ?_
  refine Qm ?_
  refine WL.p Q0 (Yl.index str9 Q0 Q0 Q0 (by first | assumption | exact List.getElem?_eq_getElem Q7)) ?_
  refine WL.p Q0 (Yl.lss Q0 Q0) ?_
  refine Qm ?_
  refine WL.split (d := 14) Q0 (fun h2 => ?_) (fun h2 => ?_)
  ·
   replace h2 := of_decide_eq_true h2
   refine WL.skip (d := 14) Q0 Q0 Q0 Q0 ?_
   refine WL.skip (d := 14) Q0 Q0 Q0 Q0 ?_
   refine WL.skip (d := 14) Q0 Q0 Q0 Q0 ?_
   refine WL.skip (d := 14) Q0 Q0 Q0 Q0 ?_
   refine WL.p Q0 (Yl.pickT Q0 Q0) ?_
   refine Qm ?_
   refine WL.run (d := 20) Q0 Q0 ?_
   refine Qm ?_
   refine WL.run (d := 20) Q0 Q0 ?_
   refine Qm ?_
   refine WL.run (d := 20) Q0 Q0 ?_
   refine WL.p Q0 (Yl.index str9 Q0 Q0 Q0 (by first | assumption | exact List.getElem?_eq_getElem Q7)) ?_
   refine WL.run (d := 20) Q0 Q0 ?_
   refine WL.p Q0 (Yl.lss Q0 Q0) ?_
   refine WL.run (d := 20) Q0 Q0 ?_
   refine Qm ?_
   refine WL.split (d := 25) Q0 (fun h3 => ?_) (fun h3 => ?_)
   ·
    replace h3 := of_decide_eq_true h3
    refine WL.skip (d := 25) Q0 Q0 Q0 Q0 ?_
    refine WL.skip (d := 25) Q0 Q0 Q0 Q0 ?_
    refine WL.skip (d := 25) Q0 Q0 Q0 Q0 ?_
    refine WL.skip (d := 25) Q0 Q0 Q0 Q0 ?_
    refine WL.run (d := 20) Q0 Q0 ?_
    refine WL.p Q0 (Yl.pickT Q0 Q0) ?_
    refine WL.p Q0 (Yl.pickT Q0 Q0) ?_
    refine Qm ?_
    refine WL.run (d := 32) Q0 Q0 ?_
    refine Qm ?_
    refine WL.run (d := 32) Q0 Q0 ?_
    refine Qm ?_
    refine WL.run (d := 32) Q0 Q0 ?_
    refine WL.p Q0 (Yl.index str9 Q0 Q0 Q0 (by first | assumption | exact List.getElem?_eq_getElem Q7)) ?_
    refine WL.run (d := 32) Q0 Q0 ?_
    refine WL.p Q0 (Yl.nei Q0 Q0) ?_
    refine WL.p Q0 (Yl.pickT Q0 Q0) ?_
    refine WL.next ?_
    refine WC.condS Q0 (fun h4 => ?_) (fun h4 => ?_)
    ·
     replace h4 := not_eq_true h4
     replace h4 := of_decide_eq_false h4
     refine WC.seq ?_
     refine Qa ?_
     refine WL.next ?_
     refine WC.ret ?_
     refine At.blockret ?_
     refine At.thenret ?_
     refine At.thenret ?_
     refine At.blockret ?_
     refine At.thenret ?_
     refine fin1' rfl Q0 ?_
     refine RetP.mk hs ?_
     first
      | (simp [isValue, hJ, valueByte, lower, digit]; done)
      | (simp [isValue, hJ, valueByte, lower, digit]; omega)
      | simp_all [isValue, hJ, valueByte, lower, digit]
    ·
     replace h4 := not_eq_false h4
     replace h4 := of_decide_eq_true h4
     refine WC.skip ?_
     refine At.blocknormal ?_
     refine At.then_ ?_
     refine WC.region ?_
     refine Qm ?_
     refine WL.p Q0 (Yl.add Q0 Q0 Q7) ?_
     refine Qa ?_
     refine WL.nil ?_
     refine At.roundC (k + 1) (hs.only Q2) ⟨by rfl, trivial⟩ ⟨by rfl, trivial⟩ ?_ ?_
     ·
      omega
     ·
      rw [hJ]; simp [valueByte, lower, digit]; omega
   ·
    replace h3 := of_decide_eq_false h3
    refine WL.run (d := 25) Q0 Q0 ?_
    refine Qm ?_
    refine WL.run (d := 25) Q0 Q0 ?_
    refine Qm ?_
    refine WL.run (d := 25) Q0 Q0 ?_
    refine WL.p Q0 (Yl.index str9 Q0 Q0 Q0 (by first | assumption | exact List.getElem?_eq_getElem Q7)) ?_
    refine WL.run (d := 25) Q0 Q0 ?_
    refine WL.p Q0 (Yl.gtr Q0 Q0) ?_
    refine WL.run (d := 20) Q0 Q0 ?_
    refine WL.p Q0 (Yl.pickF Q0 Q0) ?_
    refine WL.p Q0 (Yl.pickT Q0 Q0) ?_
    refine Qm ?_
    refine WL.split (d := 32) Q0 (fun h4 => ?_) (fun h4 => ?_)
    ·
     replace h4 := of_decide_eq_true h4
     refine WL.run (d := 32) Q0 Q0 ?_
     refine Qm ?_
     refine WL.run (d := 32) Q0 Q0 ?_
     refine Qm ?_
     refine WL.run (d := 32) Q0 Q0 ?_
     refine WL.p Q0 (Yl.index str9 Q0 Q0 Q0 (by first | assumption | exact List.getElem?_eq_getElem Q7)) ?_
     refine WL.run (d := 32) Q0 Q0 ?_
     refine WL.p Q0 (Yl.nei Q0 Q0) ?_
     refine WL.p Q0 (Yl.pickT Q0 Q0) ?_
     refine WL.next ?_
     refine WC.condS Q0 (fun h5 => ?_) (fun h5 => ?_)
     ·
      replace h5 := not_eq_true h5
      replace h5 := of_decide_eq_false h5
      refine WC.seq ?_
      refine Qa ?_
      refine WL.next ?_
      refine WC.ret ?_
      refine At.blockret ?_
      refine At.thenret ?_
      refine At.thenret ?_
      refine At.blockret ?_
      refine At.thenret ?_
      refine fin1' rfl Q0 ?_
      refine RetP.mk hs ?_
      first
       | (simp [isValue, hJ, valueByte, lower, digit]; done)
       | (simp [isValue, hJ, valueByte, lower, digit]; omega)
       | simp_all [isValue, hJ, valueByte, lower, digit]
     ·
      replace h5 := not_eq_false h5
      replace h5 := of_decide_eq_true h5
      refine WC.skip ?_
      refine At.blocknormal ?_
      refine At.then_ ?_
      refine WC.region ?_
      refine Qm ?_
      refine WL.p Q0 (Yl.add Q0 Q0 Q7) ?_
      refine Qa ?_
      refine WL.nil ?_
      refine At.roundC (k + 1) (hs.only Q2) ⟨by rfl, trivial⟩ ⟨by rfl, trivial⟩ ?_ ?_
      ·
       omega
      ·
       rw [hJ]; simp [valueByte, lower, digit]; omega
    ·
     replace h4 := of_decide_eq_false h4
     refine WL.skip (d := 32) Q0 Q0 Q0 Q0 ?_
     refine WL.skip (d := 32) Q0 Q0 Q0 Q0 ?_
     refine WL.skip (d := 32) Q0 Q0 Q0 Q0 ?_
     refine WL.skip (d := 32) Q0 Q0 Q0 Q0 ?_
     refine WL.p Q0 (Yl.pickF Q0 Q0) ?_
     refine WL.next ?_
     refine WC.condF Q0 ?_
     refine WC.skip ?_
     refine At.blocknormal ?_
     refine At.then_ ?_
     refine WC.region ?_
     refine Qm ?_
     refine WL.p Q0 (Yl.add Q0 Q0 Q7) ?_
     refine Qa ?_
     refine WL.nil ?_
     refine At.roundC (k + 1) (hs.only Q2) ⟨by rfl, trivial⟩ ⟨by rfl, trivial⟩ ?_ ?_
     ·
      omega
     ·
      rw [hJ]; simp [valueByte, lower, digit]; omega
  ·
   replace h2 := of_decide_eq_false h2
   refine WL.run (d := 14) Q0 Q0 ?_
   refine Qm ?_
   refine WL.run (d := 14) Q0 Q0 ?_
   refine Qm ?_
   refine WL.run (d := 14) Q0 Q0 ?_
   refine WL.p Q0 (Yl.index str9 Q0 Q0 Q0 (by first | assumption | exact List.getElem?_eq_getElem Q7)) ?_
   refine WL.run (d := 14) Q0 Q0 ?_
   refine WL.p Q0 (Yl.gtr Q0 Q0) ?_
   refine WL.p Q0 (Yl.pickF Q0 Q0) ?_
   refine Qm ?_
   refine WL.split (d := 20) Q0 (fun h3 => ?_) (fun h3 => ?_)
   ·
    replace h3 := of_decide_eq_true h3
    refine WL.run (d := 20) Q0 Q0 ?_
    refine Qm ?_
    refine WL.run (d := 20) Q0 Q0 ?_
    refine Qm ?_
    refine WL.run (d := 20) Q0 Q0 ?_
    refine WL.p Q0 (Yl.index str9 Q0 Q0 Q0 (by first | assumption | exact List.getElem?_eq_getElem Q7)) ?_
    refine WL.run (d := 20) Q0 Q0 ?_
    refine WL.p Q0 (Yl.lss Q0 Q0) ?_
    refine WL.run (d := 20) Q0 Q0 ?_
    refine Qm ?_
    refine WL.split (d := 25) Q0 (fun h4 => ?_) (fun h4 => ?_)
    ·
     replace h4 := of_decide_eq_true h4
     refine WL.skip (d := 25) Q0 Q0 Q0 Q0 ?_
     refine WL.skip (d := 25) Q0 Q0 Q0 Q0 ?_
     refine WL.skip (d := 25) Q0 Q0 Q0 Q0 ?_
     refine WL.skip (d := 25) Q0 Q0 Q0 Q0 ?_
     refine WL.run (d := 20) Q0 Q0 ?_
     refine WL.p Q0 (Yl.pickT Q0 Q0) ?_
     refine WL.p Q0 (Yl.pickT Q0 Q0) ?_
     refine Qm ?_
     refine WL.run (d := 32) Q0 Q0 ?_
     refine Qm ?_
     refine WL.run (d := 32) Q0 Q0 ?_
     refine Qm ?_
     refine WL.run (d := 32) Q0 Q0 ?_
     refine WL.p Q0 (Yl.index str9 Q0 Q0 Q0 (by first | assumption | exact List.getElem?_eq_getElem Q7)) ?_
     refine WL.run (d := 32) Q0 Q0 ?_
     refine WL.p Q0 (Yl.nei Q0 Q0) ?_
     refine WL.p Q0 (Yl.pickT Q0 Q0) ?_
     refine WL.next ?_
     refine WC.condS Q0 (fun h5 => ?_) (fun h5 => ?_)
     ·
      replace h5 := not_eq_true h5
      replace h5 := of_decide_eq_false h5
      refine WC.seq ?_
      refine Qa ?_
      refine WL.next ?_
      refine WC.ret ?_
      refine At.blockret ?_
      refine At.thenret ?_
      refine At.thenret ?_
      refine At.blockret ?_
      refine At.thenret ?_
      refine fin1' rfl Q0 ?_
      refine RetP.mk hs ?_
      first
       | (simp [isValue, hJ, valueByte, lower, digit]; done)
       | (simp [isValue, hJ, valueByte, lower, digit]; omega)
       | simp_all [isValue, hJ, valueByte, lower, digit]
     ·
      replace h5 := not_eq_false h5
      replace h5 := of_decide_eq_true h5
      refine WC.skip ?_
      refine At.blocknormal ?_
      refine At.then_ ?_
      refine WC.region ?_
      refine Qm ?_
      refine WL.p Q0 (Yl.add Q0 Q0 Q7) ?_
      refine Qa ?_
      refine WL.nil ?_
      refine At.roundC (k + 1) (hs.only Q2) ⟨by rfl, trivial⟩ ⟨by rfl, trivial⟩ ?_ ?_
      ·
       omega
      ·
       rw [hJ]; simp [valueByte, lower, digit]; omega
    ·
     replace h4 := of_decide_eq_false h4
     refine WL.run (d := 25) Q0 Q0 ?_
     refine Qm ?_
     refine WL.run (d := 25) Q0 Q0 ?_
     refine Qm ?_
     refine WL.run (d := 25) Q0 Q0 ?_
     refine WL.p Q0 (Yl.index str9 Q0 Q0 Q0 (by first | assumption | exact List.getElem?_eq_getElem Q7)) ?_
     refine WL.run (d := 25) Q0 Q0 ?_
     refine WL.p Q0 (Yl.gtr Q0 Q0) ?_
     refine WL.run (d := 20) Q0 Q0 ?_
     refine WL.p Q0 (Yl.pickF Q0 Q0) ?_
     refine WL.p Q0 (Yl.pickT Q0 Q0) ?_
     refine Qm ?_
     refine WL.split (d := 32) Q0 (fun h5 => ?_) (fun h5 => ?_)
     ·
      replace h5 := of_decide_eq_true h5
      refine WL.run (d := 32) Q0 Q0 ?_
      refine Qm ?_
      refine WL.run (d := 32) Q0 Q0 ?_
      refine Qm ?_
      refine WL.run (d := 32) Q0 Q0 ?_
      refine WL.p Q0 (Yl.index str9 Q0 Q0 Q0 (by first | assumption | exact List.getElem?_eq_getElem Q7)) ?_
      refine WL.run (d := 32) Q0 Q0 ?_
      refine WL.p Q0 (Yl.nei Q0 Q0) ?_
      refine WL.p Q0 (Yl.pickT Q0 Q0) ?_
      refine WL.next ?_
      refine WC.condS Q0 (fun h6 => ?_) (fun h6 => ?_)
      ·
       replace h6 := not_eq_true h6
       replace h6 := of_decide_eq_false h6
       refine WC.seq ?_
       refine Qa ?_
       refine WL.next ?_
       refine WC.ret ?_
       refine At.blockret ?_
       refine At.thenret ?_
       refine At.thenret ?_
       refine At.blockret ?_
       refine At.thenret ?_
       refine fin1' rfl Q0 ?_
       refine RetP.mk hs ?_
       first
        | (simp [isValue, hJ, valueByte, lower, digit]; done)
        | (simp [isValue, hJ, valueByte, lower, digit]; omega)
        | simp_all [isValue, hJ, valueByte, lower, digit]
      ·
       replace h6 := not_eq_false h6
       replace h6 := of_decide_eq_true h6
       refine WC.skip ?_
       refine At.blocknormal ?_
       refine At.then_ ?_
       refine WC.region ?_
       refine Qm ?_
       refine WL.p Q0 (Yl.add Q0 Q0 Q7) ?_
       refine Qa ?_
       refine WL.nil ?_
       refine At.roundC (k + 1) (hs.only Q2) ⟨by rfl, trivial⟩ ⟨by rfl, trivial⟩ ?_ ?_
       ·
        omega
       ·
        rw [hJ]; simp [valueByte, lower, digit]; omega
     ·
      replace h5 := of_decide_eq_false h5
      refine WL.skip (d := 32) Q0 Q0 Q0 Q0 ?_
      refine WL.skip (d := 32) Q0 Q0 Q0 Q0 ?_
      refine WL.skip (d := 32) Q0 Q0 Q0 Q0 ?_
      refine WL.skip (d := 32) Q0 Q0 Q0 Q0 ?_
      refine WL.p Q0 (Yl.pickF Q0 Q0) ?_
      refine WL.next ?_
      refine WC.condF Q0 ?_
      refine WC.skip ?_
      refine At.blocknormal ?_
      refine At.then_ ?_
      refine WC.region ?_
      refine Qm ?_
      refine WL.p Q0 (Yl.add Q0 Q0 Q7) ?_
      refine Qa ?_
      refine WL.nil ?_
      refine At.roundC (k + 1) (hs.only Q2) ⟨by rfl, trivial⟩ ⟨by rfl, trivial⟩ ?_ ?_
      ·
       omega
      ·
       rw [hJ]; simp [valueByte, lower, digit]; omega
   ·
    replace h3 := of_decide_eq_false h3
    refine WL.skip (d := 20) Q0 Q0 Q0 Q0 ?_
    refine WL.skip (d := 20) Q0 Q0 Q0 Q0 ?_
    refine WL.skip (d := 20) Q0 Q0 Q0 Q0 ?_
    refine WL.skip (d := 20) Q0 Q0 Q0 Q0 ?_
    refine WL.skip (d := 20) Q0 Q0 Q0 Q0 ?_
    refine WL.skipU (d := 25) Q0 Q0 Q0 ?_
    refine WL.skipU (d := 25) Q0 Q0 Q0 ?_
    refine WL.skipU (d := 25) Q0 Q0 Q0 ?_
    refine WL.skipU (d := 25) Q0 Q0 Q0 ?_
    refine WL.skip (d := 20) Q0 Q0 Q0 Q0 ?_
    refine WL.p Q0 (Yl.pickF Q0 Q0) ?_
    refine Qm ?_
    refine WL.skip (d := 32) Q0 Q0 Q0 Q0 ?_
    refine WL.skip (d := 32) Q0 Q0 Q0 Q0 ?_
    refine WL.skip (d := 32) Q0 Q0 Q0 Q0 ?_
    refine WL.skip (d := 32) Q0 Q0 Q0 Q0 ?_
    refine WL.p Q0 (Yl.pickF Q0 Q0) ?_
    refine WL.next ?_
    refine WC.condF Q0 ?_
    refine WC.skip ?_
    refine At.blocknormal ?_
    refine At.then_ ?_
    refine WC.region ?_
    refine Qm ?_
    refine WL.p Q0 (Yl.add Q0 Q0 Q7) ?_
    refine Qa ?_
    refine WL.nil ?_
    refine At.roundC (k + 1) (hs.only Q2) ⟨by rfl, trivial⟩ ⟨by rfl, trivial⟩ ?_ ?_
    ·
     omega
    ·
     rw [hJ]; simp [valueByte, lower, digit]; omega
 ·
  replace h1 := of_decide_eq_false h1
  rw [drop_out (l := s) Q7] at hJ
  refine WC.exit ?_
  refine At.thenexit ?_
  refine At.thenexit ?_
  refine At.blockexit ?_
  refine At.then_ ?_
  refine WC.seq ?_
  refine Qm ?_
  refine WL.p Q0 (Yl.len_str str9 Q0) ?_
  refine WL.callp hs Q0 (Yc.func Q0 fn39) (c_spec_l1In _ _ _ _) ?_
  clear hs; intro w hs
  refine Qa ?_
  refine WL.next ?_
  refine WC.ret ?_
  refine fin1' rfl Q0 ?_
  refine RetP.mk hs ?_
  first
   | (simp [isValue, hJ, valueByte, lower, digit]; done)
   | (simp [isValue, hJ, valueByte, lower, digit]; omega)
   | simp_all [isValue, hJ, valueByte, lower, digit]

theorem c_spec_FindAttr (l : (Sl TAttr)) (name : Str) (w : World) (h_l : Ph.ok w l)  : Calls Tryz.prog 162 [Sl.v l, S name].toArray w (RetP w (.tuple #[S (attrV name l.l), Bo (attrIn name l.l)])) := by
 have hw := h_l.lt
 refine enterN 25 Tryz.func162 rfl rfl rfl ?_
 have hs := Sat.start w
 refine WC.seq ?_
 refine Qa ?_
 refine Qa ?_
 refine WL.next ?_
 refine WC.seq' ?_
 refine WC.seq ?_
 refine Qa ?_
 refine WL.next ?_
 refine WC.block ?_
 refine WC.loopC (ι := Nat) (fun k => l.l.length - k) (fun k => [(6, I (k : Int))]) (fun _ => []) (fun k => (attrV name l.l = attrV name (l.l.drop k) ∧ attrIn name l.l = attrIn name (l.l.drop k))) [(0, _), (1, _)] 0 (hs) ⟨by rfl, by rfl, trivial⟩ ⟨by rfl, trivial⟩ ?_ ?_
 ·
  simp
 clear hs; rintro k w hJ hs
 simp only [List.nil_append] at hs
 refine WC.seq' ?_
 refine WC.seq ?_
 refine Qm ?_
 refine Qm ?_
 refine WL.p Q0 (Yl.len_sl slu82 Q0) ?_
 refine WL.p Q0 (Yl.lss Q0 Q0) ?_
 refine WL.next ?_
 refine WC.condS Q0 (fun h1 => ?_) (fun h1 => ?_)
 ·
  replace h1 := of_decide_eq_true h1
  obtain ⟨d, hd⟩ := exists_get (l := l.l) (k := k) Q7
  rw [drop_cons hd] at hJ
  refine WC.skipn ?_
  refine WC.seq' ?_
  refine WC.block ?_
  refine WC.seq ?_
  refine Qm ?_
  refine Qm ?_
  refine WL.p Q0 (Yl.indexAddr slt82 Q0 Q0 (Ph.old h_l hs) Q0 (hd)) ?_
  refine WL.p Q0 (Yl.fieldAddr fa121_0 Q0) ?_
  refine WL.p Q0 (Yl.loadC sca9 Q0 (Sl.Ok.at_ (Ph.old h_l hs) (by assumption)).2 Q0) ?_
  refine Qm ?_
  refine WL.p Q0 (Yl.eqs Q0 Q0) ?_
  refine WL.next ?_
  refine WC.condS Q0 (fun h2 => ?_) (fun h2 => ?_)
  ·
   replace h2 := of_decide_eq_true h2
   refine WC.seq ?_
   refine Qm ?_
   refine Qm ?_
   refine WL.p Q0 (Yl.indexAddr slt82 Q0 Q0 (Ph.old h_l hs) Q0 (hd)) ?_
   refine WL.p Q0 (Yl.fieldAddr fa121_1 Q0) ?_
   refine WL.p Q0 (Yl.loadC sca9 Q0 (Sl.Ok.at_ (Ph.old h_l hs) (by assumption)).2 Q0) ?_
   refine Qa ?_
   refine Qa ?_
   refine WL.next ?_
   refine WC.ret ?_
   refine At.blockret ?_
   refine At.thenret ?_
   refine At.thenret ?_
   refine At.blockret ?_
   refine At.thenret ?_
   refine fin2' rfl Q0 Q0 ?_
   refine RetP.mk hs ?_
   rw [hJ.1, hJ.2]
   first
    | (have h9 : d.name = name := by assumption
       simp [attrV, attrIn, h9]; done)
    | simp [attrV, attrIn]
  ·
   replace h2 := of_decide_eq_false h2
   refine WC.skip ?_
   refine At.blocknormal ?_
   refine At.then_ ?_
   refine WC.region ?_
   refine Qm ?_
   refine WL.p Q0 (Yl.add Q0 Q0 Q7) ?_
   refine Qa ?_
   refine WL.nil ?_
   refine At.roundC (k + 1) (hs.only Q2) ⟨by rfl, by rfl, trivial⟩ ⟨by rfl, trivial⟩ ?_ ?_
   ·
    omega
   ·
    have h9 : ¬ d.name = name := by assumption
    exact ⟨by rw [hJ.1]; simp [attrV, h9], by rw [hJ.2]; simp [attrIn, h9]⟩
 ·
  replace h1 := of_decide_eq_false h1
  rw [drop_out (l := l.l) Q7] at hJ
  refine WC.exit ?_
  refine At.thenexit ?_
  refine At.thenexit ?_
  refine At.blockexit ?_
  refine At.then_ ?_
  refine WC.seq ?_
  refine Qa ?_
  refine Qa ?_
  refine WL.next ?_
  refine WC.ret ?_
  refine fin2' rfl Q0 Q0 ?_
  refine RetP.mk hs ?_
  rw [hJ.1, hJ.2]
  first
   | (have h9 : d.name = name := by assumption
      simp [attrV, attrIn, h9]; done)
   | simp [attrV, attrIn]

end Go.Sw
