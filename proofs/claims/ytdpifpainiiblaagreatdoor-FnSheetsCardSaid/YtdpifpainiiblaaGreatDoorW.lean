/- Walks: what each function of the program returns, for every input. Printed by gen.py. -/
import Derived.Test.YtdpifpainiiblaaGreatDoorW2
set_option linter.all false
namespace Go.Sw
open Go Go.RowKit Go.Proofs

set_option maxHeartbeats 4000000 in
set_option maxRecDepth 20000 in
theorem c_laws_FnSheets (code : (Sl UInt8)) (w : World) (h_code : Ph.ok w code) (hm_ : ∃ m, w.cell? ⟨0, 0, none⟩ = some (.int .i64 m)) (ht_ : Tab10 Tryz.prog w) (he_ : ErrCells 1 2 w) : Calls Tryz.prog 3 [Sl.v code].toArray w (RetP w (Bo true)) := by
 refine enterN 107 Tryz.func3 rfl rfl rfl ?_
 have hs := Sat.start w
 refine WC.seq ?_
 refine Qa ?_
 refine WL.next ?_
 refine WC.seq' ?_
 refine WC.seq ?_
 refine Qm ?_
 refine WL.callp hs Q0 (Yc.func Q0 fn5) (c_laws_big _ _ (Ph.old h_code hs)) ?_
 clear hs; intro w hs
 refine WL.next ?_
 refine WC.condS Q0 (fun h1 => ?_) (fun h1 => ?_)
 ·
  replace h1 := of_decide_eq_true h1
  refine WC.seq ?_
  refine Qa ?_
  refine WL.next ?_
  refine WC.ret ?_
  refine At.thenret ?_
  refine fin1' rfl Q0 ?_
  refine RetP.mk hs ?_
  first
   | rfl
   | (clear hs; simp_all; done)
 ·
  replace h1 := of_decide_eq_false h1
  refine WC.skipn ?_
  refine WC.seq ?_
  refine Qm ?_
  refine WL.callx hs Q0 (Yc.func Q0 fn6) (c_spec_DrawParseSheet _ _ (Ph.old h_code hs)) ?_
  clear hs; intro v w ho hR hs
  obtain ⟨x1, rfl, hokx1, hx1, hf1⟩ := hR
  clear ho hf1
  refine Qa ?_
  refine WL.next ?_
  refine WC.seq ?_
  refine Qm ?_
  refine WL.call hs Q0 (Yc.func Q0 fn7) (c_impl_ParseSheet _ _ (by first | exact Flat.any hokx1 | exact (show WfS _ from by unfold WfS; have h9 := fmtSheet_len x2.lg (fun r hr => sheet_wf hx2 hr); omega)) (by first | omega | (have h9 := fmtSheet_len x2.lg (fun r hr => sheet_wf hx2 hr); omega)) (by first | assumption | exact Sat.cellm hs (by assumption)) (by first | assumption | exact Sat.tab hs (by assumption)) (by first | assumption | exact Sat.errs hs (by assumption))) ?_
  have hs0 := hs; clear hs; intro v w hb hR hs; clear hs
  obtain ⟨x2, rfl, hx2, hf2⟩ := hR
  obtain ⟨F2, hs⟩ := hf2.sat hs0 hb; clear hs0 hf2
  have hz2 := sheet_size_of hx2
  have hl2 : x2.rules.l.length ≤ 8 := by rw [show x2.rules.l = sheetTo (splitC 59 x1) from congrArg TSheet.rules hx2]; exact sheetTo_len _
  refine WL.r Q0 (Yr.alloc hs zt27) ?_
  clear hs; rintro _ w ⟨b3, rfl, hb, hs⟩; clear hb
  refine WL.s (Yr.storeB hs Q0 Q0 Q0 Q5 Q3 Q0 (by exact szf27)) ?_
  clear hs; rintro _ w hs
  refine WL.next ?_
  refine WC.seq' ?_
  refine WC.anynJ (ι := Bool) (fun b => [(40, Bo b)]) (fun _ => []) (fun b => b = false) [(0, _), (2, _), (3, _), (4, _), (13, _)] mixed hs ⟨by rfl, by rfl, by rfl, by rfl, by rfl, trivial⟩ ?_ ?_
  ·
   clear hs; intro join w hs
   refine WA.p (i := 0) Q0 Q6 Q6 Q6 Q0 (hs.only Q2) (fun w hs => Yl.loadAB agg27 Q0 hs Q1 Q0 Q0) ?_
   refine WA.p (i := 2) Q0 Q6 Q6 Q6 Q0 (hs.only Q2) (fun w hs => Yl.move Q0) ?_
   refine WA.two (i := 1) (j := 3) Q6 ?_ ?_
   ·
    refine WI.r (i := 1) Q0 Q0 (Yr.buildSlice hs sll30 Q0 Q0 Q0 Q4 Q0) (by rintro _ w ⟨b4, rfl, hb, hs⟩; exact hs.only Q2) ?_
    clear hs; rintro _ w ⟨b4, rfl, hb, hs⟩; clear hb
    refine WA.call2 (i := 3) hs (fun _ hs => hs.only Q2) Q6 Q0 Q0 (Yc.func Q0 fn9) (c_spec_ParseSheet _ _ (Flat.any hokx1) Q7) ?_
    have hs0 := hs; clear hs; intro v w hb hR hs; clear hs
    obtain ⟨x5, rfl, hx5, hf5⟩ := hR
    obtain ⟨F5, hs⟩ := hf5.sat hs0 hb; clear hs0 hf5
    have hq5 : x5.lg = x2.lg := by rw [hx5, hx2]
    refine WA.r (i := 4) Q6 Q0 Q0 (Yr.buildSlice hs sll30 Q0 Q0 Q0 Q4 Q0) (by rintro _ w ⟨b6, rfl, hb, hs⟩; exact hs.only Q2) ?_
    clear hs; rintro _ w ⟨b6, rfl, hb, hs⟩; clear hb
    refine WA.callp2 (i := 5) hs (fun _ hs => hs.only Q2) Q6 Q0 Q0 (Yc.func Q0 fn8) (c_impl_EqualSheets (⟨[x2], some ⟨b4, 0, none⟩, 1⟩ : Sl PSheet) (⟨[x5], some ⟨b6, 0, none⟩, 1⟩ : Sl PSheet) _ (Sat.oklit1 (x := x2) (b := b4) hs Q1 (hs.okow (x := x2) (F := F2) Q1)) (Sat.oklit1 (x := x5) (b := b6) hs Q1 (hs.okow (x := x5) (F := F5) Q1))) ?_
    clear hs; intro w hs
    refine WA.p (i := 6) Q0 Q6 Q6 Q6 Q0 (hs.only Q2) (fun w hs => Yl.not Q0) ?_
    refine WA.p (i := 7) Q0 Q6 Q6 Q6 Q0 (hs.only Q2) (fun w hs => Yl.move Q0) ?_
    refine WA.split (d := 25) Q0 (fun h2 => ?_) (fun h2 => ?_)
    ·
     replace h2 := not_eq_true h2
     replace h2 := of_decide_eq_false h2
     refine WA.skip (i := 8) (d := 25) Q0 Q6 Q6 Q6 Q0 Q0 Q0 Q0 (hs.only Q2) ?_
     refine WA.skip (i := 9) (d := 25) Q0 Q6 Q6 Q6 Q0 Q0 Q0 Q0 (hs.only Q2) ?_
     refine WA.skip (i := 10) (d := 25) Q0 Q6 Q6 Q6 Q0 Q0 Q0 Q0 (hs.only Q2) ?_
     refine WA.skip (i := 11) (d := 25) Q0 Q6 Q6 Q6 Q0 Q0 Q0 Q0 (hs.only Q2) ?_
     refine WA.p (i := 12) Q0 Q6 Q6 Q6 Q0 (hs.only Q2) (fun w hs => Yl.pickT Q0 Q0) ?_
     refine WA.p (i := 13) Q0 Q6 Q6 Q6 Q0 (hs.only Q2) (fun w hs => Yl.move Q0) ?_
     refine WA.skip (i := 14) (d := 31) Q0 Q6 Q6 Q6 Q0 Q0 Q0 Q0 (hs.only Q2) ?_
     refine WA.skip (i := 15) (d := 31) Q0 Q6 Q6 Q6 Q0 Q0 Q0 Q0 (hs.only Q2) ?_
     refine WA.skip (i := 16) (d := 31) Q0 Q6 Q6 Q6 Q0 Q0 Q0 Q0 (hs.only Q2) ?_
     refine WA.skip (i := 17) (d := 31) Q0 Q6 Q6 Q6 Q0 Q0 Q0 Q0 (hs.only Q2) ?_
     refine WA.skip (i := 18) (d := 31) Q0 Q6 Q6 Q6 Q0 Q0 Q0 Q0 (hs.only Q2) ?_
     refine WA.skip (i := 19) (d := 31) Q0 Q6 Q6 Q6 Q0 Q0 Q0 Q0 (hs.only Q2) ?_
     refine WA.skip (i := 20) (d := 31) Q0 Q6 Q6 Q6 Q0 Q0 Q0 Q0 (hs.only Q2) ?_
     refine WA.skip (i := 21) (d := 31) Q0 Q6 Q6 Q6 Q0 Q0 Q0 Q0 (hs.only Q2) ?_
     refine WA.p (i := 22) Q0 Q6 Q6 Q6 Q0 (hs.only Q2) (fun w hs => Yl.pickT Q0 Q0) ?_
     refine WA.donen Q6 ?_
     refine join _ w _ ?_ (hs.only Q2) ⟨by rfl, by rfl, by rfl, by rfl, by rfl, trivial⟩ ⟨by rfl, trivial⟩
     (try clear join); (try clear ha); (try clear hs)
     simp_all
    ·
     replace h2 := not_eq_false h2
     replace h2 := of_decide_eq_true h2
     refine WA.pg (i := 8) (d := 25) Q0 Q6 Q6 Q6 Q0 Q0 Q0 (hs.only Q2) (fun w hs => Yl.fieldAddr fa27_0 Q0) ?_
     refine WA.pg (i := 9) (d := 25) Q0 Q6 Q6 Q6 Q0 Q0 Q0 (hs.only Q2) (fun w hs => Yl.loadB sca25 Q0 hs Q1 Q0) ?_
     refine WA.pg (i := 10) (d := 25) Q0 Q6 Q6 Q6 Q0 Q0 Q0 (hs.only Q2) (fun w hs => Yl.len_sl slu25 Q0) ?_
     refine WA.pg (i := 11) (d := 25) Q0 Q6 Q6 Q6 Q0 Q0 Q0 (hs.only Q2) (fun w hs => Yl.gtr Q0 Q0) ?_
     refine WA.p (i := 12) Q0 Q6 Q6 Q6 Q0 (hs.only Q2) (fun w hs => Yl.pickF Q0 Q0) ?_
     refine WA.p (i := 13) Q0 Q6 Q6 Q6 Q0 (hs.only Q2) (fun w hs => Yl.move Q0) ?_
     refine WA.split (d := 31) Q0 (fun h3 => ?_) (fun h3 => ?_)
     ·
      replace h3 := of_decide_eq_true h3
      exfalso
      omega
     ·
      replace h3 := of_decide_eq_false h3
      refine WA.pg (i := 14) (d := 31) Q0 Q6 Q6 Q6 Q0 Q0 Q0 (hs.only Q2) (fun w hs => Yl.loadAB agg27 Q0 hs Q1 Q0 Q0) ?_
      refine WA.pg (i := 18) (d := 31) Q0 Q6 Q6 Q6 Q0 Q0 Q0 (hs.only Q2) (fun w hs => Yl.loadAB agg27 Q0 hs Q1 Q0 Q0) ?_
      refine WA.two (i := 15) (j := 19) Q6 ?_ ?_
      ·
       refine WI.callp2g (i := 15) (d := 31) hs (fun _ hs => hs.only Q2) Q0 Q0 Q0 Q0 (Yc.func Q0 fn10) (c_impl_FormatSheet _ _ (hs.okow (x := x2) (F := F2) Q1) Q7 (by first | assumption | exact Sat.tab hs (by assumption))) ?_
       clear hs; intro w hs
       refine WA.two (i := 16) (j := 19) Q6 ?_ ?_
       ·
        refine WI.call2g (i := 16) (d := 31) hs (fun _ hs => hs.only Q2) Q0 Q0 Q0 Q0 (Yc.func Q0 fn7) (c_impl_ParseSheet _ _ (by first | exact Flat.any hokx1 | exact (show WfS _ from by unfold WfS; have h9 := fmtSheet_len x2.lg (fun r hr => sheet_wf hx2 hr); omega)) (by first | omega | (have h9 := fmtSheet_len x2.lg (fun r hr => sheet_wf hx2 hr); omega)) (by first | assumption | exact Sat.cellm hs (by assumption)) (by first | assumption | exact Sat.tab hs (by assumption)) (by first | assumption | exact Sat.errs hs (by assumption))) ?_
        have hs0 := hs; clear hs; intro v w hb hR hs; clear hs
        obtain ⟨x7, rfl, hx7, hf7⟩ := hR
        obtain ⟨F7, hs⟩ := hf7.sat hs0 hb; clear hs0 hf7
        have hq7 : x7.lg = x2.lg := by rw [hx7, hx2]; exact congrArg TSheet.mk (sheet_round _)
        refine WA.two (i := 17) (j := 19) Q6 ?_ ?_
        ·
         refine WI.rg (i := 17) (d := 31) Q0 Q0 Q0 Q0 (Yr.buildSlice hs sll30 Q0 Q0 Q0 Q4 Q0) (by rintro _ w ⟨b8, rfl, hb, hs⟩; exact hs.only Q2) ?_
         clear hs; rintro _ w ⟨b8, rfl, hb, hs⟩; clear hb
         refine WA.one (i := 19)  Q6 ?_
         refine WI.rg (i := 19) (d := 31) Q0 Q0 Q0 Q0 (Yr.buildSlice hs sll30 Q0 Q0 Q0 Q4 Q0) (by rintro _ w ⟨b9, rfl, hb, hs⟩; exact hs.only Q2) ?_
         clear hs; rintro _ w ⟨b9, rfl, hb, hs⟩; clear hb
         refine WA.callp2g (i := 20) (d := 31) hs (fun _ hs => hs.only Q2) Q6 Q0 Q0 Q0 Q0 (Yc.func Q0 fn8) (c_impl_EqualSheets (⟨[x7], some ⟨b8, 0, none⟩, 1⟩ : Sl PSheet) (⟨[x2], some ⟨b9, 0, none⟩, 1⟩ : Sl PSheet) _ (Sat.oklit1 (x := x7) (b := b8) hs Q1 (hs.okow (x := x7) (F := F7) Q1)) (Sat.oklit1 (x := x2) (b := b9) hs Q1 (hs.okow (x := x2) (F := F2) Q1))) ?_
         clear hs; intro w hs
         refine WA.pg (i := 21) (d := 31) Q0 Q6 Q6 Q6 Q0 Q0 Q0 (hs.only Q2) (fun w hs => Yl.not Q0) ?_
         refine WA.p (i := 22) Q0 Q6 Q6 Q6 Q0 (hs.only Q2) (fun w hs => Yl.pickF Q0 Q0) ?_
         refine WA.donen Q6 ?_
         refine join _ w _ ?_ (hs.only Q2) ⟨by rfl, by rfl, by rfl, by rfl, by rfl, trivial⟩ ⟨by rfl, trivial⟩
         (try clear join); (try clear ha); (try clear hs)
         simp_all
        ·
         refine WI.rg (i := 19) (d := 31) Q0 Q0 Q0 Q0 (Yr.buildSlice hs sll30 Q0 Q0 Q0 Q4 Q0) (by rintro _ w ⟨b10, rfl, hb, hs⟩; exact hs.only Q2) ?_
         clear hs; rintro _ w ⟨b10, rfl, hb, hs⟩; clear hb
         refine WA.one (i := 17)  Q6 ?_
         refine WI.rg (i := 17) (d := 31) Q0 Q0 Q0 Q0 (Yr.buildSlice hs sll30 Q0 Q0 Q0 Q4 Q0) (by rintro _ w ⟨b11, rfl, hb, hs⟩; exact hs.only Q2) ?_
         clear hs; rintro _ w ⟨b11, rfl, hb, hs⟩; clear hb
         refine WA.callp2g (i := 20) (d := 31) hs (fun _ hs => hs.only Q2) Q6 Q0 Q0 Q0 Q0 (Yc.func Q0 fn8) (c_impl_EqualSheets (⟨[x7], some ⟨b11, 0, none⟩, 1⟩ : Sl PSheet) (⟨[x2], some ⟨b10, 0, none⟩, 1⟩ : Sl PSheet) _ (Sat.oklit1 (x := x7) (b := b11) hs Q1 (hs.okow (x := x7) (F := F7) Q1)) (Sat.oklit1 (x := x2) (b := b10) hs Q1 (hs.okow (x := x2) (F := F2) Q1))) ?_
         clear hs; intro w hs
         refine WA.pg (i := 21) (d := 31) Q0 Q6 Q6 Q6 Q0 Q0 Q0 (hs.only Q2) (fun w hs => Yl.not Q0) ?_
         refine WA.p (i := 22) Q0 Q6 Q6 Q6 Q0 (hs.only Q2) (fun w hs => Yl.pickF Q0 Q0) ?_
         refine WA.donen Q6 ?_
         refine join _ w _ ?_ (hs.only Q2) ⟨by rfl, by rfl, by rfl, by rfl, by rfl, trivial⟩ ⟨by rfl, trivial⟩
         (try clear join); (try clear ha); (try clear hs)
         simp_all
       ·
        refine WI.rg (i := 19) (d := 31) Q0 Q0 Q0 Q0 (Yr.buildSlice hs sll30 Q0 Q0 Q0 Q4 Q0) (by rintro _ w ⟨b12, rfl, hb, hs⟩; exact hs.only Q2) ?_
        clear hs; rintro _ w ⟨b12, rfl, hb, hs⟩; clear hb
        refine WA.call2g (i := 16) (d := 31) hs (fun _ hs => hs.only Q2) Q6 Q0 Q0 Q0 Q0 (Yc.func Q0 fn7) (c_impl_ParseSheet _ _ (by first | exact Flat.any hokx1 | exact (show WfS _ from by unfold WfS; have h9 := fmtSheet_len x2.lg (fun r hr => sheet_wf hx2 hr); omega)) (by first | omega | (have h9 := fmtSheet_len x2.lg (fun r hr => sheet_wf hx2 hr); omega)) (by first | assumption | exact Sat.cellm hs (by assumption)) (by first | assumption | exact Sat.tab hs (by assumption)) (by first | assumption | exact Sat.errs hs (by assumption))) ?_
        have hs0 := hs; clear hs; intro v w hb hR hs; clear hs
        obtain ⟨x13, rfl, hx13, hf13⟩ := hR
        obtain ⟨F13, hs⟩ := hf13.sat hs0 hb; clear hs0 hf13
        have hq13 : x13.lg = x2.lg := by rw [hx13, hx2]; exact congrArg TSheet.mk (sheet_round _)
        refine WA.one (i := 17)  Q6 ?_
        refine WI.rg (i := 17) (d := 31) Q0 Q0 Q0 Q0 (Yr.buildSlice hs sll30 Q0 Q0 Q0 Q4 Q0) (by rintro _ w ⟨b14, rfl, hb, hs⟩; exact hs.only Q2) ?_
        clear hs; rintro _ w ⟨b14, rfl, hb, hs⟩; clear hb
        refine WA.callp2g (i := 20) (d := 31) hs (fun _ hs => hs.only Q2) Q6 Q0 Q0 Q0 Q0 (Yc.func Q0 fn8) (c_impl_EqualSheets (⟨[x13], some ⟨b14, 0, none⟩, 1⟩ : Sl PSheet) (⟨[x2], some ⟨b12, 0, none⟩, 1⟩ : Sl PSheet) _ (Sat.oklit1 (x := x13) (b := b14) hs Q1 (hs.okow (x := x13) (F := F13) Q1)) (Sat.oklit1 (x := x2) (b := b12) hs Q1 (hs.okow (x := x2) (F := F2) Q1))) ?_
        clear hs; intro w hs
        refine WA.pg (i := 21) (d := 31) Q0 Q6 Q6 Q6 Q0 Q0 Q0 (hs.only Q2) (fun w hs => Yl.not Q0) ?_
        refine WA.p (i := 22) Q0 Q6 Q6 Q6 Q0 (hs.only Q2) (fun w hs => Yl.pickF Q0 Q0) ?_
        refine WA.donen Q6 ?_
        refine join _ w _ ?_ (hs.only Q2) ⟨by rfl, by rfl, by rfl, by rfl, by rfl, trivial⟩ ⟨by rfl, trivial⟩
        (try clear join); (try clear ha); (try clear hs)
        simp_all
      ·
       refine WI.rg (i := 19) (d := 31) Q0 Q0 Q0 Q0 (Yr.buildSlice hs sll30 Q0 Q0 Q0 Q4 Q0) (by rintro _ w ⟨b15, rfl, hb, hs⟩; exact hs.only Q2) ?_
       clear hs; rintro _ w ⟨b15, rfl, hb, hs⟩; clear hb
       refine WA.callp2g (i := 15) (d := 31) hs (fun _ hs => hs.only Q2) Q6 Q0 Q0 Q0 Q0 (Yc.func Q0 fn10) (c_impl_FormatSheet _ _ (hs.okow (x := x2) (F := F2) Q1) Q7 (by first | assumption | exact Sat.tab hs (by assumption))) ?_
       clear hs; intro w hs
       refine WA.call2g (i := 16) (d := 31) hs (fun _ hs => hs.only Q2) Q6 Q0 Q0 Q0 Q0 (Yc.func Q0 fn7) (c_impl_ParseSheet _ _ (by first | exact Flat.any hokx1 | exact (show WfS _ from by unfold WfS; have h9 := fmtSheet_len x2.lg (fun r hr => sheet_wf hx2 hr); omega)) (by first | omega | (have h9 := fmtSheet_len x2.lg (fun r hr => sheet_wf hx2 hr); omega)) (by first | assumption | exact Sat.cellm hs (by assumption)) (by first | assumption | exact Sat.tab hs (by assumption)) (by first | assumption | exact Sat.errs hs (by assumption))) ?_
       have hs0 := hs; clear hs; intro v w hb hR hs; clear hs
       obtain ⟨x16, rfl, hx16, hf16⟩ := hR
       obtain ⟨F16, hs⟩ := hf16.sat hs0 hb; clear hs0 hf16
       have hq16 : x16.lg = x2.lg := by rw [hx16, hx2]; exact congrArg TSheet.mk (sheet_round _)
       refine WA.one (i := 17)  Q6 ?_
       refine WI.rg (i := 17) (d := 31) Q0 Q0 Q0 Q0 (Yr.buildSlice hs sll30 Q0 Q0 Q0 Q4 Q0) (by rintro _ w ⟨b17, rfl, hb, hs⟩; exact hs.only Q2) ?_
       clear hs; rintro _ w ⟨b17, rfl, hb, hs⟩; clear hb
       refine WA.callp2g (i := 20) (d := 31) hs (fun _ hs => hs.only Q2) Q6 Q0 Q0 Q0 Q0 (Yc.func Q0 fn8) (c_impl_EqualSheets (⟨[x16], some ⟨b17, 0, none⟩, 1⟩ : Sl PSheet) (⟨[x2], some ⟨b15, 0, none⟩, 1⟩ : Sl PSheet) _ (Sat.oklit1 (x := x16) (b := b17) hs Q1 (hs.okow (x := x16) (F := F16) Q1)) (Sat.oklit1 (x := x2) (b := b15) hs Q1 (hs.okow (x := x2) (F := F2) Q1))) ?_
       clear hs; intro w hs
       refine WA.pg (i := 21) (d := 31) Q0 Q6 Q6 Q6 Q0 Q0 Q0 (hs.only Q2) (fun w hs => Yl.not Q0) ?_
       refine WA.p (i := 22) Q0 Q6 Q6 Q6 Q0 (hs.only Q2) (fun w hs => Yl.pickF Q0 Q0) ?_
       refine WA.donen Q6 ?_
       refine join _ w _ ?_ (hs.only Q2) ⟨by rfl, by rfl, by rfl, by rfl, by rfl, trivial⟩ ⟨by rfl, trivial⟩
       (try clear join); (try clear ha); (try clear hs)
       simp_all
   ·
    refine WI.call2 (i := 3) hs (fun _ hs => hs.only Q2) Q0 Q0 (Yc.func Q0 fn9) (c_spec_ParseSheet _ _ (Flat.any hokx1) Q7) ?_
    have hs0 := hs; clear hs; intro v w hb hR hs; clear hs
    obtain ⟨x18, rfl, hx18, hf18⟩ := hR
    obtain ⟨F18, hs⟩ := hf18.sat hs0 hb; clear hs0 hf18
    have hq18 : x18.lg = x2.lg := by rw [hx18, hx2]
    refine WA.two (i := 1) (j := 4) Q6 ?_ ?_
    ·
     refine WI.r (i := 1) Q0 Q0 (Yr.buildSlice hs sll30 Q0 Q0 Q0 Q4 Q0) (by rintro _ w ⟨b19, rfl, hb, hs⟩; exact hs.only Q2) ?_
     clear hs; rintro _ w ⟨b19, rfl, hb, hs⟩; clear hb
     refine WA.r (i := 4) Q6 Q0 Q0 (Yr.buildSlice hs sll30 Q0 Q0 Q0 Q4 Q0) (by rintro _ w ⟨b20, rfl, hb, hs⟩; exact hs.only Q2) ?_
     clear hs; rintro _ w ⟨b20, rfl, hb, hs⟩; clear hb
     refine WA.callp2 (i := 5) hs (fun _ hs => hs.only Q2) Q6 Q0 Q0 (Yc.func Q0 fn8) (c_impl_EqualSheets (⟨[x2], some ⟨b19, 0, none⟩, 1⟩ : Sl PSheet) (⟨[x18], some ⟨b20, 0, none⟩, 1⟩ : Sl PSheet) _ (Sat.oklit1 (x := x2) (b := b19) hs Q1 (hs.okow (x := x2) (F := F2) Q1)) (Sat.oklit1 (x := x18) (b := b20) hs Q1 (hs.okow (x := x18) (F := F18) Q1))) ?_
     clear hs; intro w hs
     refine WA.p (i := 6) Q0 Q6 Q6 Q6 Q0 (hs.only Q2) (fun w hs => Yl.not Q0) ?_
     refine WA.p (i := 7) Q0 Q6 Q6 Q6 Q0 (hs.only Q2) (fun w hs => Yl.move Q0) ?_
     refine WA.split (d := 25) Q0 (fun h2 => ?_) (fun h2 => ?_)
     ·
      replace h2 := not_eq_true h2
      replace h2 := of_decide_eq_false h2
      refine WA.skip (i := 8) (d := 25) Q0 Q6 Q6 Q6 Q0 Q0 Q0 Q0 (hs.only Q2) ?_
      refine WA.skip (i := 9) (d := 25) Q0 Q6 Q6 Q6 Q0 Q0 Q0 Q0 (hs.only Q2) ?_
      refine WA.skip (i := 10) (d := 25) Q0 Q6 Q6 Q6 Q0 Q0 Q0 Q0 (hs.only Q2) ?_
      refine WA.skip (i := 11) (d := 25) Q0 Q6 Q6 Q6 Q0 Q0 Q0 Q0 (hs.only Q2) ?_
      refine WA.p (i := 12) Q0 Q6 Q6 Q6 Q0 (hs.only Q2) (fun w hs => Yl.pickT Q0 Q0) ?_
      refine WA.p (i := 13) Q0 Q6 Q6 Q6 Q0 (hs.only Q2) (fun w hs => Yl.move Q0) ?_
      refine WA.skip (i := 14) (d := 31) Q0 Q6 Q6 Q6 Q0 Q0 Q0 Q0 (hs.only Q2) ?_
      refine WA.skip (i := 15) (d := 31) Q0 Q6 Q6 Q6 Q0 Q0 Q0 Q0 (hs.only Q2) ?_
      refine WA.skip (i := 16) (d := 31) Q0 Q6 Q6 Q6 Q0 Q0 Q0 Q0 (hs.only Q2) ?_
      refine WA.skip (i := 17) (d := 31) Q0 Q6 Q6 Q6 Q0 Q0 Q0 Q0 (hs.only Q2) ?_
      refine WA.skip (i := 18) (d := 31) Q0 Q6 Q6 Q6 Q0 Q0 Q0 Q0 (hs.only Q2) ?_
      refine WA.skip (i := 19) (d := 31) Q0 Q6 Q6 Q6 Q0 Q0 Q0 Q0 (hs.only Q2) ?_
      refine WA.skip (i := 20) (d := 31) Q0 Q6 Q6 Q6 Q0 Q0 Q0 Q0 (hs.only Q2) ?_
      refine WA.skip (i := 21) (d := 31) Q0 Q6 Q6 Q6 Q0 Q0 Q0 Q0 (hs.only Q2) ?_
      refine WA.p (i := 22) Q0 Q6 Q6 Q6 Q0 (hs.only Q2) (fun w hs => Yl.pickT Q0 Q0) ?_
      refine WA.donen Q6 ?_
      refine join _ w _ ?_ (hs.only Q2) ⟨by rfl, by rfl, by rfl, by rfl, by rfl, trivial⟩ ⟨by rfl, trivial⟩
      (try clear join); (try clear ha); (try clear hs)
      simp_all
     ·
      replace h2 := not_eq_false h2
      replace h2 := of_decide_eq_true h2
      refine WA.pg (i := 8) (d := 25) Q0 Q6 Q6 Q6 Q0 Q0 Q0 (hs.only Q2) (fun w hs => Yl.fieldAddr fa27_0 Q0) ?_
      refine WA.pg (i := 9) (d := 25) Q0 Q6 Q6 Q6 Q0 Q0 Q0 (hs.only Q2) (fun w hs => Yl.loadB sca25 Q0 hs Q1 Q0) ?_
      refine WA.pg (i := 10) (d := 25) Q0 Q6 Q6 Q6 Q0 Q0 Q0 (hs.only Q2) (fun w hs => Yl.len_sl slu25 Q0) ?_
      refine WA.pg (i := 11) (d := 25) Q0 Q6 Q6 Q6 Q0 Q0 Q0 (hs.only Q2) (fun w hs => Yl.gtr Q0 Q0) ?_
      refine WA.p (i := 12) Q0 Q6 Q6 Q6 Q0 (hs.only Q2) (fun w hs => Yl.pickF Q0 Q0) ?_
      refine WA.p (i := 13) Q0 Q6 Q6 Q6 Q0 (hs.only Q2) (fun w hs => Yl.move Q0) ?_
      refine WA.split (d := 31) Q0 (fun h3 => ?_) (fun h3 => ?_)
      ·
       replace h3 := of_decide_eq_true h3
       exfalso
       omega
      ·
       replace h3 := of_decide_eq_false h3
       refine WA.pg (i := 14) (d := 31) Q0 Q6 Q6 Q6 Q0 Q0 Q0 (hs.only Q2) (fun w hs => Yl.loadAB agg27 Q0 hs Q1 Q0 Q0) ?_
       refine WA.pg (i := 18) (d := 31) Q0 Q6 Q6 Q6 Q0 Q0 Q0 (hs.only Q2) (fun w hs => Yl.loadAB agg27 Q0 hs Q1 Q0 Q0) ?_
       refine WA.two (i := 15) (j := 19) Q6 ?_ ?_
       ·
        refine WI.callp2g (i := 15) (d := 31) hs (fun _ hs => hs.only Q2) Q0 Q0 Q0 Q0 (Yc.func Q0 fn10) (c_impl_FormatSheet _ _ (hs.okow (x := x2) (F := F2) Q1) Q7 (by first | assumption | exact Sat.tab hs (by assumption))) ?_
        clear hs; intro w hs
        refine WA.two (i := 16) (j := 19) Q6 ?_ ?_
        ·
         refine WI.call2g (i := 16) (d := 31) hs (fun _ hs => hs.only Q2) Q0 Q0 Q0 Q0 (Yc.func Q0 fn7) (c_impl_ParseSheet _ _ (by first | exact Flat.any hokx1 | exact (show WfS _ from by unfold WfS; have h9 := fmtSheet_len x2.lg (fun r hr => sheet_wf hx2 hr); omega)) (by first | omega | (have h9 := fmtSheet_len x2.lg (fun r hr => sheet_wf hx2 hr); omega)) (by first | assumption | exact Sat.cellm hs (by assumption)) (by first | assumption | exact Sat.tab hs (by assumption)) (by first | assumption | exact Sat.errs hs (by assumption))) ?_
         have hs0 := hs; clear hs; intro v w hb hR hs; clear hs
         obtain ⟨x21, rfl, hx21, hf21⟩ := hR
         obtain ⟨F21, hs⟩ := hf21.sat hs0 hb; clear hs0 hf21
         have hq21 : x21.lg = x2.lg := by rw [hx21, hx2]; exact congrArg TSheet.mk (sheet_round _)
         refine WA.two (i := 17) (j := 19) Q6 ?_ ?_
         ·
          refine WI.rg (i := 17) (d := 31) Q0 Q0 Q0 Q0 (Yr.buildSlice hs sll30 Q0 Q0 Q0 Q4 Q0) (by rintro _ w ⟨b22, rfl, hb, hs⟩; exact hs.only Q2) ?_
          clear hs; rintro _ w ⟨b22, rfl, hb, hs⟩; clear hb
          refine WA.one (i := 19)  Q6 ?_
          refine WI.rg (i := 19) (d := 31) Q0 Q0 Q0 Q0 (Yr.buildSlice hs sll30 Q0 Q0 Q0 Q4 Q0) (by rintro _ w ⟨b23, rfl, hb, hs⟩; exact hs.only Q2) ?_
          clear hs; rintro _ w ⟨b23, rfl, hb, hs⟩; clear hb
          refine WA.callp2g (i := 20) (d := 31) hs (fun _ hs => hs.only Q2) Q6 Q0 Q0 Q0 Q0 (Yc.func Q0 fn8) (c_impl_EqualSheets (⟨[x21], some ⟨b22, 0, none⟩, 1⟩ : Sl PSheet) (⟨[x2], some ⟨b23, 0, none⟩, 1⟩ : Sl PSheet) _ (Sat.oklit1 (x := x21) (b := b22) hs Q1 (hs.okow (x := x21) (F := F21) Q1)) (Sat.oklit1 (x := x2) (b := b23) hs Q1 (hs.okow (x := x2) (F := F2) Q1))) ?_
          clear hs; intro w hs
          refine WA.pg (i := 21) (d := 31) Q0 Q6 Q6 Q6 Q0 Q0 Q0 (hs.only Q2) (fun w hs => Yl.not Q0) ?_
          refine WA.p (i := 22) Q0 Q6 Q6 Q6 Q0 (hs.only Q2) (fun w hs => Yl.pickF Q0 Q0) ?_
          refine WA.donen Q6 ?_
          refine join _ w _ ?_ (hs.only Q2) ⟨by rfl, by rfl, by rfl, by rfl, by rfl, trivial⟩ ⟨by rfl, trivial⟩
          (try clear join); (try clear ha); (try clear hs)
          simp_all
         ·
          refine WI.rg (i := 19) (d := 31) Q0 Q0 Q0 Q0 (Yr.buildSlice hs sll30 Q0 Q0 Q0 Q4 Q0) (by rintro _ w ⟨b24, rfl, hb, hs⟩; exact hs.only Q2) ?_
          clear hs; rintro _ w ⟨b24, rfl, hb, hs⟩; clear hb
          refine WA.one (i := 17)  Q6 ?_
          refine WI.rg (i := 17) (d := 31) Q0 Q0 Q0 Q0 (Yr.buildSlice hs sll30 Q0 Q0 Q0 Q4 Q0) (by rintro _ w ⟨b25, rfl, hb, hs⟩; exact hs.only Q2) ?_
          clear hs; rintro _ w ⟨b25, rfl, hb, hs⟩; clear hb
          refine WA.callp2g (i := 20) (d := 31) hs (fun _ hs => hs.only Q2) Q6 Q0 Q0 Q0 Q0 (Yc.func Q0 fn8) (c_impl_EqualSheets (⟨[x21], some ⟨b25, 0, none⟩, 1⟩ : Sl PSheet) (⟨[x2], some ⟨b24, 0, none⟩, 1⟩ : Sl PSheet) _ (Sat.oklit1 (x := x21) (b := b25) hs Q1 (hs.okow (x := x21) (F := F21) Q1)) (Sat.oklit1 (x := x2) (b := b24) hs Q1 (hs.okow (x := x2) (F := F2) Q1))) ?_
          clear hs; intro w hs
          refine WA.pg (i := 21) (d := 31) Q0 Q6 Q6 Q6 Q0 Q0 Q0 (hs.only Q2) (fun w hs => Yl.not Q0) ?_
          refine WA.p (i := 22) Q0 Q6 Q6 Q6 Q0 (hs.only Q2) (fun w hs => Yl.pickF Q0 Q0) ?_
          refine WA.donen Q6 ?_
          refine join _ w _ ?_ (hs.only Q2) ⟨by rfl, by rfl, by rfl, by rfl, by rfl, trivial⟩ ⟨by rfl, trivial⟩
          (try clear join); (try clear ha); (try clear hs)
          simp_all
        ·
         refine WI.rg (i := 19) (d := 31) Q0 Q0 Q0 Q0 (Yr.buildSlice hs sll30 Q0 Q0 Q0 Q4 Q0) (by rintro _ w ⟨b26, rfl, hb, hs⟩; exact hs.only Q2) ?_
         clear hs; rintro _ w ⟨b26, rfl, hb, hs⟩; clear hb
         refine WA.call2g (i := 16) (d := 31) hs (fun _ hs => hs.only Q2) Q6 Q0 Q0 Q0 Q0 (Yc.func Q0 fn7) (c_impl_ParseSheet _ _ (by first | exact Flat.any hokx1 | exact (show WfS _ from by unfold WfS; have h9 := fmtSheet_len x2.lg (fun r hr => sheet_wf hx2 hr); omega)) (by first | omega | (have h9 := fmtSheet_len x2.lg (fun r hr => sheet_wf hx2 hr); omega)) (by first | assumption | exact Sat.cellm hs (by assumption)) (by first | assumption | exact Sat.tab hs (by assumption)) (by first | assumption | exact Sat.errs hs (by assumption))) ?_
         have hs0 := hs; clear hs; intro v w hb hR hs; clear hs
         obtain ⟨x27, rfl, hx27, hf27⟩ := hR
         obtain ⟨F27, hs⟩ := hf27.sat hs0 hb; clear hs0 hf27
         have hq27 : x27.lg = x2.lg := by rw [hx27, hx2]; exact congrArg TSheet.mk (sheet_round _)
         refine WA.one (i := 17)  Q6 ?_
         refine WI.rg (i := 17) (d := 31) Q0 Q0 Q0 Q0 (Yr.buildSlice hs sll30 Q0 Q0 Q0 Q4 Q0) (by rintro _ w ⟨b28, rfl, hb, hs⟩; exact hs.only Q2) ?_
         clear hs; rintro _ w ⟨b28, rfl, hb, hs⟩; clear hb
         refine WA.callp2g (i := 20) (d := 31) hs (fun _ hs => hs.only Q2) Q6 Q0 Q0 Q0 Q0 (Yc.func Q0 fn8) (c_impl_EqualSheets (⟨[x27], some ⟨b28, 0, none⟩, 1⟩ : Sl PSheet) (⟨[x2], some ⟨b26, 0, none⟩, 1⟩ : Sl PSheet) _ (Sat.oklit1 (x := x27) (b := b28) hs Q1 (hs.okow (x := x27) (F := F27) Q1)) (Sat.oklit1 (x := x2) (b := b26) hs Q1 (hs.okow (x := x2) (F := F2) Q1))) ?_
         clear hs; intro w hs
         refine WA.pg (i := 21) (d := 31) Q0 Q6 Q6 Q6 Q0 Q0 Q0 (hs.only Q2) (fun w hs => Yl.not Q0) ?_
         refine WA.p (i := 22) Q0 Q6 Q6 Q6 Q0 (hs.only Q2) (fun w hs => Yl.pickF Q0 Q0) ?_
         refine WA.donen Q6 ?_
         refine join _ w _ ?_ (hs.only Q2) ⟨by rfl, by rfl, by rfl, by rfl, by rfl, trivial⟩ ⟨by rfl, trivial⟩
         (try clear join); (try clear ha); (try clear hs)
         simp_all
       ·
        refine WI.rg (i := 19) (d := 31) Q0 Q0 Q0 Q0 (Yr.buildSlice hs sll30 Q0 Q0 Q0 Q4 Q0) (by rintro _ w ⟨b29, rfl, hb, hs⟩; exact hs.only Q2) ?_
        clear hs; rintro _ w ⟨b29, rfl, hb, hs⟩; clear hb
        refine WA.callp2g (i := 15) (d := 31) hs (fun _ hs => hs.only Q2) Q6 Q0 Q0 Q0 Q0 (Yc.func Q0 fn10) (c_impl_FormatSheet _ _ (hs.okow (x := x2) (F := F2) Q1) Q7 (by first | assumption | exact Sat.tab hs (by assumption))) ?_
        clear hs; intro w hs
        refine WA.call2g (i := 16) (d := 31) hs (fun _ hs => hs.only Q2) Q6 Q0 Q0 Q0 Q0 (Yc.func Q0 fn7) (c_impl_ParseSheet _ _ (by first | exact Flat.any hokx1 | exact (show WfS _ from by unfold WfS; have h9 := fmtSheet_len x2.lg (fun r hr => sheet_wf hx2 hr); omega)) (by first | omega | (have h9 := fmtSheet_len x2.lg (fun r hr => sheet_wf hx2 hr); omega)) (by first | assumption | exact Sat.cellm hs (by assumption)) (by first | assumption | exact Sat.tab hs (by assumption)) (by first | assumption | exact Sat.errs hs (by assumption))) ?_
        have hs0 := hs; clear hs; intro v w hb hR hs; clear hs
        obtain ⟨x30, rfl, hx30, hf30⟩ := hR
        obtain ⟨F30, hs⟩ := hf30.sat hs0 hb; clear hs0 hf30
        have hq30 : x30.lg = x2.lg := by rw [hx30, hx2]; exact congrArg TSheet.mk (sheet_round _)
        refine WA.one (i := 17)  Q6 ?_
        refine WI.rg (i := 17) (d := 31) Q0 Q0 Q0 Q0 (Yr.buildSlice hs sll30 Q0 Q0 Q0 Q4 Q0) (by rintro _ w ⟨b31, rfl, hb, hs⟩; exact hs.only Q2) ?_
        clear hs; rintro _ w ⟨b31, rfl, hb, hs⟩; clear hb
        refine WA.callp2g (i := 20) (d := 31) hs (fun _ hs => hs.only Q2) Q6 Q0 Q0 Q0 Q0 (Yc.func Q0 fn8) (c_impl_EqualSheets (⟨[x30], some ⟨b31, 0, none⟩, 1⟩ : Sl PSheet) (⟨[x2], some ⟨b29, 0, none⟩, 1⟩ : Sl PSheet) _ (Sat.oklit1 (x := x30) (b := b31) hs Q1 (hs.okow (x := x30) (F := F30) Q1)) (Sat.oklit1 (x := x2) (b := b29) hs Q1 (hs.okow (x := x2) (F := F2) Q1))) ?_
        clear hs; intro w hs
        refine WA.pg (i := 21) (d := 31) Q0 Q6 Q6 Q6 Q0 Q0 Q0 (hs.only Q2) (fun w hs => Yl.not Q0) ?_
        refine WA.p (i := 22) Q0 Q6 Q6 Q6 Q0 (hs.only Q2) (fun w hs => Yl.pickF Q0 Q0) ?_
        refine WA.donen Q6 ?_
        refine join _ w _ ?_ (hs.only Q2) ⟨by rfl, by rfl, by rfl, by rfl, by rfl, trivial⟩ ⟨by rfl, trivial⟩
        (try clear join); (try clear ha); (try clear hs)
        simp_all
    ·
     refine WI.r (i := 4) Q0 Q0 (Yr.buildSlice hs sll30 Q0 Q0 Q0 Q4 Q0) (by rintro _ w ⟨b32, rfl, hb, hs⟩; exact hs.only Q2) ?_
     clear hs; rintro _ w ⟨b32, rfl, hb, hs⟩; clear hb
     refine WA.r (i := 1) Q6 Q0 Q0 (Yr.buildSlice hs sll30 Q0 Q0 Q0 Q4 Q0) (by rintro _ w ⟨b33, rfl, hb, hs⟩; exact hs.only Q2) ?_
     clear hs; rintro _ w ⟨b33, rfl, hb, hs⟩; clear hb
     refine WA.callp2 (i := 5) hs (fun _ hs => hs.only Q2) Q6 Q0 Q0 (Yc.func Q0 fn8) (c_impl_EqualSheets (⟨[x2], some ⟨b33, 0, none⟩, 1⟩ : Sl PSheet) (⟨[x18], some ⟨b32, 0, none⟩, 1⟩ : Sl PSheet) _ (Sat.oklit1 (x := x2) (b := b33) hs Q1 (hs.okow (x := x2) (F := F2) Q1)) (Sat.oklit1 (x := x18) (b := b32) hs Q1 (hs.okow (x := x18) (F := F18) Q1))) ?_
     clear hs; intro w hs
     refine WA.p (i := 6) Q0 Q6 Q6 Q6 Q0 (hs.only Q2) (fun w hs => Yl.not Q0) ?_
     refine WA.p (i := 7) Q0 Q6 Q6 Q6 Q0 (hs.only Q2) (fun w hs => Yl.move Q0) ?_
     refine WA.split (d := 25) Q0 (fun h2 => ?_) (fun h2 => ?_)
     ·
      replace h2 := not_eq_true h2
      replace h2 := of_decide_eq_false h2
      refine WA.skip (i := 8) (d := 25) Q0 Q6 Q6 Q6 Q0 Q0 Q0 Q0 (hs.only Q2) ?_
      refine WA.skip (i := 9) (d := 25) Q0 Q6 Q6 Q6 Q0 Q0 Q0 Q0 (hs.only Q2) ?_
      refine WA.skip (i := 10) (d := 25) Q0 Q6 Q6 Q6 Q0 Q0 Q0 Q0 (hs.only Q2) ?_
      refine WA.skip (i := 11) (d := 25) Q0 Q6 Q6 Q6 Q0 Q0 Q0 Q0 (hs.only Q2) ?_
      refine WA.p (i := 12) Q0 Q6 Q6 Q6 Q0 (hs.only Q2) (fun w hs => Yl.pickT Q0 Q0) ?_
      refine WA.p (i := 13) Q0 Q6 Q6 Q6 Q0 (hs.only Q2) (fun w hs => Yl.move Q0) ?_
      refine WA.skip (i := 14) (d := 31) Q0 Q6 Q6 Q6 Q0 Q0 Q0 Q0 (hs.only Q2) ?_
      refine WA.skip (i := 15) (d := 31) Q0 Q6 Q6 Q6 Q0 Q0 Q0 Q0 (hs.only Q2) ?_
      refine WA.skip (i := 16) (d := 31) Q0 Q6 Q6 Q6 Q0 Q0 Q0 Q0 (hs.only Q2) ?_
      refine WA.skip (i := 17) (d := 31) Q0 Q6 Q6 Q6 Q0 Q0 Q0 Q0 (hs.only Q2) ?_
      refine WA.skip (i := 18) (d := 31) Q0 Q6 Q6 Q6 Q0 Q0 Q0 Q0 (hs.only Q2) ?_
      refine WA.skip (i := 19) (d := 31) Q0 Q6 Q6 Q6 Q0 Q0 Q0 Q0 (hs.only Q2) ?_
      refine WA.skip (i := 20) (d := 31) Q0 Q6 Q6 Q6 Q0 Q0 Q0 Q0 (hs.only Q2) ?_
      refine WA.skip (i := 21) (d := 31) Q0 Q6 Q6 Q6 Q0 Q0 Q0 Q0 (hs.only Q2) ?_
      refine WA.p (i := 22) Q0 Q6 Q6 Q6 Q0 (hs.only Q2) (fun w hs => Yl.pickT Q0 Q0) ?_
      refine WA.donen Q6 ?_
      refine join _ w _ ?_ (hs.only Q2) ⟨by rfl, by rfl, by rfl, by rfl, by rfl, trivial⟩ ⟨by rfl, trivial⟩
      (try clear join); (try clear ha); (try clear hs)
      simp_all
     ·
      replace h2 := not_eq_false h2
      replace h2 := of_decide_eq_true h2
      refine WA.pg (i := 8) (d := 25) Q0 Q6 Q6 Q6 Q0 Q0 Q0 (hs.only Q2) (fun w hs => Yl.fieldAddr fa27_0 Q0) ?_
      refine WA.pg (i := 9) (d := 25) Q0 Q6 Q6 Q6 Q0 Q0 Q0 (hs.only Q2) (fun w hs => Yl.loadB sca25 Q0 hs Q1 Q0) ?_
      refine WA.pg (i := 10) (d := 25) Q0 Q6 Q6 Q6 Q0 Q0 Q0 (hs.only Q2) (fun w hs => Yl.len_sl slu25 Q0) ?_
      refine WA.pg (i := 11) (d := 25) Q0 Q6 Q6 Q6 Q0 Q0 Q0 (hs.only Q2) (fun w hs => Yl.gtr Q0 Q0) ?_
      refine WA.p (i := 12) Q0 Q6 Q6 Q6 Q0 (hs.only Q2) (fun w hs => Yl.pickF Q0 Q0) ?_
      refine WA.p (i := 13) Q0 Q6 Q6 Q6 Q0 (hs.only Q2) (fun w hs => Yl.move Q0) ?_
      refine WA.split (d := 31) Q0 (fun h3 => ?_) (fun h3 => ?_)
      ·
       replace h3 := of_decide_eq_true h3
       exfalso
       omega
      ·
       replace h3 := of_decide_eq_false h3
       refine WA.pg (i := 14) (d := 31) Q0 Q6 Q6 Q6 Q0 Q0 Q0 (hs.only Q2) (fun w hs => Yl.loadAB agg27 Q0 hs Q1 Q0 Q0) ?_
       refine WA.pg (i := 18) (d := 31) Q0 Q6 Q6 Q6 Q0 Q0 Q0 (hs.only Q2) (fun w hs => Yl.loadAB agg27 Q0 hs Q1 Q0 Q0) ?_
       refine WA.two (i := 15) (j := 19) Q6 ?_ ?_
       ·
        refine WI.callp2g (i := 15) (d := 31) hs (fun _ hs => hs.only Q2) Q0 Q0 Q0 Q0 (Yc.func Q0 fn10) (c_impl_FormatSheet _ _ (hs.okow (x := x2) (F := F2) Q1) Q7 (by first | assumption | exact Sat.tab hs (by assumption))) ?_
        clear hs; intro w hs
        refine WA.two (i := 16) (j := 19) Q6 ?_ ?_
        ·
         refine WI.call2g (i := 16) (d := 31) hs (fun _ hs => hs.only Q2) Q0 Q0 Q0 Q0 (Yc.func Q0 fn7) (c_impl_ParseSheet _ _ (by first | exact Flat.any hokx1 | exact (show WfS _ from by unfold WfS; have h9 := fmtSheet_len x2.lg (fun r hr => sheet_wf hx2 hr); omega)) (by first | omega | (have h9 := fmtSheet_len x2.lg (fun r hr => sheet_wf hx2 hr); omega)) (by first | assumption | exact Sat.cellm hs (by assumption)) (by first | assumption | exact Sat.tab hs (by assumption)) (by first | assumption | exact Sat.errs hs (by assumption))) ?_
         have hs0 := hs; clear hs; intro v w hb hR hs; clear hs
         obtain ⟨x34, rfl, hx34, hf34⟩ := hR
         obtain ⟨F34, hs⟩ := hf34.sat hs0 hb; clear hs0 hf34
         have hq34 : x34.lg = x2.lg := by rw [hx34, hx2]; exact congrArg TSheet.mk (sheet_round _)
         refine WA.two (i := 17) (j := 19) Q6 ?_ ?_
         ·
          refine WI.rg (i := 17) (d := 31) Q0 Q0 Q0 Q0 (Yr.buildSlice hs sll30 Q0 Q0 Q0 Q4 Q0) (by rintro _ w ⟨b35, rfl, hb, hs⟩; exact hs.only Q2) ?_
          clear hs; rintro _ w ⟨b35, rfl, hb, hs⟩; clear hb
          refine WA.one (i := 19)  Q6 ?_
          refine WI.rg (i := 19) (d := 31) Q0 Q0 Q0 Q0 (Yr.buildSlice hs sll30 Q0 Q0 Q0 Q4 Q0) (by rintro _ w ⟨b36, rfl, hb, hs⟩; exact hs.only Q2) ?_
          clear hs; rintro _ w ⟨b36, rfl, hb, hs⟩; clear hb
          refine WA.callp2g (i := 20) (d := 31) hs (fun _ hs => hs.only Q2) Q6 Q0 Q0 Q0 Q0 (Yc.func Q0 fn8) (c_impl_EqualSheets (⟨[x34], some ⟨b35, 0, none⟩, 1⟩ : Sl PSheet) (⟨[x2], some ⟨b36, 0, none⟩, 1⟩ : Sl PSheet) _ (Sat.oklit1 (x := x34) (b := b35) hs Q1 (hs.okow (x := x34) (F := F34) Q1)) (Sat.oklit1 (x := x2) (b := b36) hs Q1 (hs.okow (x := x2) (F := F2) Q1))) ?_
          clear hs; intro w hs
          refine WA.pg (i := 21) (d := 31) Q0 Q6 Q6 Q6 Q0 Q0 Q0 (hs.only Q2) (fun w hs => Yl.not Q0) ?_
          refine WA.p (i := 22) Q0 Q6 Q6 Q6 Q0 (hs.only Q2) (fun w hs => Yl.pickF Q0 Q0) ?_
          refine WA.donen Q6 ?_
          refine join _ w _ ?_ (hs.only Q2) ⟨by rfl, by rfl, by rfl, by rfl, by rfl, trivial⟩ ⟨by rfl, trivial⟩
          (try clear join); (try clear ha); (try clear hs)
          simp_all
         ·
          refine WI.rg (i := 19) (d := 31) Q0 Q0 Q0 Q0 (Yr.buildSlice hs sll30 Q0 Q0 Q0 Q4 Q0) (by rintro _ w ⟨b37, rfl, hb, hs⟩; exact hs.only Q2) ?_
          clear hs; rintro _ w ⟨b37, rfl, hb, hs⟩; clear hb
          refine WA.one (i := 17)  Q6 ?_
          refine WI.rg (i := 17) (d := 31) Q0 Q0 Q0 Q0 (Yr.buildSlice hs sll30 Q0 Q0 Q0 Q4 Q0) (by rintro _ w ⟨b38, rfl, hb, hs⟩; exact hs.only Q2) ?_
          clear hs; rintro _ w ⟨b38, rfl, hb, hs⟩; clear hb
          refine WA.callp2g (i := 20) (d := 31) hs (fun _ hs => hs.only Q2) Q6 Q0 Q0 Q0 Q0 (Yc.func Q0 fn8) (c_impl_EqualSheets (⟨[x34], some ⟨b38, 0, none⟩, 1⟩ : Sl PSheet) (⟨[x2], some ⟨b37, 0, none⟩, 1⟩ : Sl PSheet) _ (Sat.oklit1 (x := x34) (b := b38) hs Q1 (hs.okow (x := x34) (F := F34) Q1)) (Sat.oklit1 (x := x2) (b := b37) hs Q1 (hs.okow (x := x2) (F := F2) Q1))) ?_
          clear hs; intro w hs
          refine WA.pg (i := 21) (d := 31) Q0 Q6 Q6 Q6 Q0 Q0 Q0 (hs.only Q2) (fun w hs => Yl.not Q0) ?_
          refine WA.p (i := 22) Q0 Q6 Q6 Q6 Q0 (hs.only Q2) (fun w hs => Yl.pickF Q0 Q0) ?_
          refine WA.donen Q6 ?_
          refine join _ w _ ?_ (hs.only Q2) ⟨by rfl, by rfl, by rfl, by rfl, by rfl, trivial⟩ ⟨by rfl, trivial⟩
          (try clear join); (try clear ha); (try clear hs)
          simp_all
        ·
         refine WI.rg (i := 19) (d := 31) Q0 Q0 Q0 Q0 (Yr.buildSlice hs sll30 Q0 Q0 Q0 Q4 Q0) (by rintro _ w ⟨b39, rfl, hb, hs⟩; exact hs.only Q2) ?_
         clear hs; rintro _ w ⟨b39, rfl, hb, hs⟩; clear hb
         refine WA.call2g (i := 16) (d := 31) hs (fun _ hs => hs.only Q2) Q6 Q0 Q0 Q0 Q0 (Yc.func Q0 fn7) (c_impl_ParseSheet _ _ (by first | exact Flat.any hokx1 | exact (show WfS _ from by unfold WfS; have h9 := fmtSheet_len x2.lg (fun r hr => sheet_wf hx2 hr); omega)) (by first | omega | (have h9 := fmtSheet_len x2.lg (fun r hr => sheet_wf hx2 hr); omega)) (by first | assumption | exact Sat.cellm hs (by assumption)) (by first | assumption | exact Sat.tab hs (by assumption)) (by first | assumption | exact Sat.errs hs (by assumption))) ?_
         have hs0 := hs; clear hs; intro v w hb hR hs; clear hs
         obtain ⟨x40, rfl, hx40, hf40⟩ := hR
         obtain ⟨F40, hs⟩ := hf40.sat hs0 hb; clear hs0 hf40
         have hq40 : x40.lg = x2.lg := by rw [hx40, hx2]; exact congrArg TSheet.mk (sheet_round _)
         refine WA.one (i := 17)  Q6 ?_
         refine WI.rg (i := 17) (d := 31) Q0 Q0 Q0 Q0 (Yr.buildSlice hs sll30 Q0 Q0 Q0 Q4 Q0) (by rintro _ w ⟨b41, rfl, hb, hs⟩; exact hs.only Q2) ?_
         clear hs; rintro _ w ⟨b41, rfl, hb, hs⟩; clear hb
         refine WA.callp2g (i := 20) (d := 31) hs (fun _ hs => hs.only Q2) Q6 Q0 Q0 Q0 Q0 (Yc.func Q0 fn8) (c_impl_EqualSheets (⟨[x40], some ⟨b41, 0, none⟩, 1⟩ : Sl PSheet) (⟨[x2], some ⟨b39, 0, none⟩, 1⟩ : Sl PSheet) _ (Sat.oklit1 (x := x40) (b := b41) hs Q1 (hs.okow (x := x40) (F := F40) Q1)) (Sat.oklit1 (x := x2) (b := b39) hs Q1 (hs.okow (x := x2) (F := F2) Q1))) ?_
         clear hs; intro w hs
         refine WA.pg (i := 21) (d := 31) Q0 Q6 Q6 Q6 Q0 Q0 Q0 (hs.only Q2) (fun w hs => Yl.not Q0) ?_
         refine WA.p (i := 22) Q0 Q6 Q6 Q6 Q0 (hs.only Q2) (fun w hs => Yl.pickF Q0 Q0) ?_
         refine WA.donen Q6 ?_
         refine join _ w _ ?_ (hs.only Q2) ⟨by rfl, by rfl, by rfl, by rfl, by rfl, trivial⟩ ⟨by rfl, trivial⟩
         (try clear join); (try clear ha); (try clear hs)
         simp_all
       ·
        refine WI.rg (i := 19) (d := 31) Q0 Q0 Q0 Q0 (Yr.buildSlice hs sll30 Q0 Q0 Q0 Q4 Q0) (by rintro _ w ⟨b42, rfl, hb, hs⟩; exact hs.only Q2) ?_
        clear hs; rintro _ w ⟨b42, rfl, hb, hs⟩; clear hb
        refine WA.callp2g (i := 15) (d := 31) hs (fun _ hs => hs.only Q2) Q6 Q0 Q0 Q0 Q0 (Yc.func Q0 fn10) (c_impl_FormatSheet _ _ (hs.okow (x := x2) (F := F2) Q1) Q7 (by first | assumption | exact Sat.tab hs (by assumption))) ?_
        clear hs; intro w hs
        refine WA.call2g (i := 16) (d := 31) hs (fun _ hs => hs.only Q2) Q6 Q0 Q0 Q0 Q0 (Yc.func Q0 fn7) (c_impl_ParseSheet _ _ (by first | exact Flat.any hokx1 | exact (show WfS _ from by unfold WfS; have h9 := fmtSheet_len x2.lg (fun r hr => sheet_wf hx2 hr); omega)) (by first | omega | (have h9 := fmtSheet_len x2.lg (fun r hr => sheet_wf hx2 hr); omega)) (by first | assumption | exact Sat.cellm hs (by assumption)) (by first | assumption | exact Sat.tab hs (by assumption)) (by first | assumption | exact Sat.errs hs (by assumption))) ?_
        have hs0 := hs; clear hs; intro v w hb hR hs; clear hs
        obtain ⟨x43, rfl, hx43, hf43⟩ := hR
        obtain ⟨F43, hs⟩ := hf43.sat hs0 hb; clear hs0 hf43
        have hq43 : x43.lg = x2.lg := by rw [hx43, hx2]; exact congrArg TSheet.mk (sheet_round _)
        refine WA.one (i := 17)  Q6 ?_
        refine WI.rg (i := 17) (d := 31) Q0 Q0 Q0 Q0 (Yr.buildSlice hs sll30 Q0 Q0 Q0 Q4 Q0) (by rintro _ w ⟨b44, rfl, hb, hs⟩; exact hs.only Q2) ?_
        clear hs; rintro _ w ⟨b44, rfl, hb, hs⟩; clear hb
        refine WA.callp2g (i := 20) (d := 31) hs (fun _ hs => hs.only Q2) Q6 Q0 Q0 Q0 Q0 (Yc.func Q0 fn8) (c_impl_EqualSheets (⟨[x43], some ⟨b44, 0, none⟩, 1⟩ : Sl PSheet) (⟨[x2], some ⟨b42, 0, none⟩, 1⟩ : Sl PSheet) _ (Sat.oklit1 (x := x43) (b := b44) hs Q1 (hs.okow (x := x43) (F := F43) Q1)) (Sat.oklit1 (x := x2) (b := b42) hs Q1 (hs.okow (x := x2) (F := F2) Q1))) ?_
        clear hs; intro w hs
        refine WA.pg (i := 21) (d := 31) Q0 Q6 Q6 Q6 Q0 Q0 Q0 (hs.only Q2) (fun w hs => Yl.not Q0) ?_
        refine WA.p (i := 22) Q0 Q6 Q6 Q6 Q0 (hs.only Q2) (fun w hs => Yl.pickF Q0 Q0) ?_
        refine WA.donen Q6 ?_
        refine join _ w _ ?_ (hs.only Q2) ⟨by rfl, by rfl, by rfl, by rfl, by rfl, trivial⟩ ⟨by rfl, trivial⟩
        (try clear join); (try clear ha); (try clear hs)
        simp_all
  ·
   clear hs; rintro _ w rfl hs
   simp only [List.nil_append] at hs
   refine WC.condF Q0 ?_
   refine WC.skipn ?_
   refine WC.seq ?_
   refine Qm ?_
   refine WL.callx hs Q0 (Yc.func Q0 fn11) (c_spec_DrawColorOf _ _ (Ph.old h_code hs)) ?_
   clear hs; intro v w ho hR hs
   obtain ⟨x45_l, x45_nm, rfl, hokx45_nm, hx45, hf45⟩ := hR
   obtain ⟨F45, hs⟩ := hs.addF ho hf45
   clear ho hf45
   refine Qm ?_
   refine WL.p Q0 (Yl.extract Q0 Q0) ?_
   refine WL.p Q0 (Yl.extract Q0 Q0) ?_
   refine Qa ?_
   refine Qa ?_
   refine WL.next ?_
   refine WC.seq ?_
   refine Qm ?_
   refine WL.call hs Q0 (Yc.func Q0 fn12) (c_impl_JoinSheets _ _ (hs.okow (x := x45_l) (F := F45) Q1) Q7) ?_
   have hs0 := hs; clear hs; intro v w hb hR hs; clear hs
   obtain ⟨x46, rfl, hx46, hf46⟩ := hR
   obtain ⟨F46, hs⟩ := hf46.sat hs0 hb; clear hs0 hf46
   have hj46 := fun nm => colorOf_join hx46 nm
   have hjl46 : x46.rules.l.length ≤ 200 := by
    rw [show x46.rules.l = _ from congrArg TSheet.rules hx46]
    exact Nat.le_trans (joinT_len _) hx45.1
   refine WL.r Q0 (Yr.alloc hs zt27) ?_
   clear hs; rintro _ w ⟨b47, rfl, hb, hs⟩; clear hb
   refine WL.s (Yr.storeB hs Q0 Q0 Q0 Q5 Q3 Q0 (by exact szf27)) ?_
   clear hs; rintro _ w hs
   refine WL.next ?_
   refine WC.seq' ?_
   refine WC.seq ?_
   refine Qa ?_
   refine WL.next ?_
   refine WC.block ?_
   refine WC.loopC (ι := Nat) (fun k => x46.rules.l.length - k) (fun k => [(8, I (k : Int))]) (fun _ => []) (fun k => 1 ≤ k) [(0, _), (3, _), (4, _), (5, _), (6, _), (7, _), (13, _), (40, _)] 1 (hs) ⟨by rfl, by rfl, by rfl, by rfl, by rfl, by rfl, by rfl, by rfl, trivial⟩ ⟨by rfl, trivial⟩ ?_ ?_
   ·
    omega
   clear hs; rintro k w hJ hs
   simp only [List.nil_append] at hs
   refine WC.seq' ?_
   refine WC.seq ?_
   refine Qm ?_
   refine WL.p Q0 (Yl.fieldAddr fa27_0 Q0) ?_
   refine WL.p Q0 (Yl.loadB sca25 Q0 hs Q1 Q0) ?_
   refine WL.p Q0 (Yl.len_sl slu25 Q0) ?_
   refine WL.p Q0 (Yl.lss Q0 Q0) ?_
   refine WL.next ?_
   refine WC.condS Q0 (fun h2 => ?_) (fun h2 => ?_)
   ·
    replace h2 := of_decide_eq_true h2
    obtain ⟨d, hd⟩ := exists_get (l := x46.rules.l) (k := k) Q7
    obtain ⟨e, he⟩ := exists_get (l := x46.rules.l) (k := k - 1) Q7
    have hlt := join_lt hx46 hJ he hd
    refine WC.skipn ?_
    refine WC.seq' ?_
    refine WC.block ?_
    refine WC.quietn mixed Q6 hs ?_
    refine WQ.p Q0 (fun w hs => Yl.fieldAddr fa27_0 Q0) ?_
    refine WQ.p Q0 (fun w hs => Yl.loadB sca25 Q0 hs Q1 Q0) ?_
    refine WQ.p Q0 (fun w hs => Yl.move Q0) ?_
    refine WQ.p Q0 (fun w hs => Yl.sub_ Q0 Q0 Q7) ?_
    refine WQ.p Q0 (fun w hs => Yl.indexAddr slt25 Q0 Q0 (hs.okow (x := x46) (F := F46) Q1).rules (by first | rfl | omega) (he)) ?_
    refine WQ.p Q0 (fun w hs => Yl.fieldAddr fa36_0 Q0) ?_
    refine WQ.p Q0 (fun w hs => Yl.loadC sca9 Q0 (Sl.Ok.at_ (hs.okow (x := x46) (F := F46) Q1).rules (by assumption)).2 Q0) ?_
    refine WQ.p Q0 (fun w hs => Yl.fieldAddr fa27_0 Q0) ?_
    refine WQ.p Q0 (fun w hs => Yl.loadB sca25 Q0 hs Q1 Q0) ?_
    refine WQ.p Q0 (fun w hs => Yl.move Q0) ?_
    refine WQ.p Q0 (fun w hs => Yl.indexAddr slt25 Q0 Q0 (hs.okow (x := x46) (F := F46) Q1).rules (by first | rfl | omega) (hd)) ?_
    refine WQ.p Q0 (fun w hs => Yl.fieldAddr fa36_0 Q0) ?_
    refine WQ.p Q0 (fun w hs => Yl.loadC sca9 Q0 (Sl.Ok.at_ (hs.okow (x := x46) (F := F46) Q1).rules (by assumption)).2 Q0) ?_
    refine WQ.p Q0 (fun w hs => Yl.ges Q0 Q0) ?_
    refine WQ.next ?_
    clear hs; intro w hs
    refine WC.condS Q0 (fun h3 => ?_) (fun h3 => ?_)
    ·
     replace h3 := not_eq_true h3
     exact Bool.noConfusion (hlt.symm.trans (by assumption))
    ·
     replace h3 := not_eq_false h3
     refine WC.skip ?_
     refine At.blocknormal ?_
     refine At.then_ ?_
     refine WC.region ?_
     refine Qm ?_
     refine WL.p Q0 (Yl.add Q0 Q0 Q7) ?_
     refine Qa ?_
     refine WL.nil ?_
     refine At.roundC (k + 1) (hs.only Q2) ⟨by rfl, by rfl, by rfl, by rfl, by rfl, by rfl, by rfl, by rfl, trivial⟩ ⟨by rfl, trivial⟩ ?_ ?_
     ·
      omega
     ·
      omega
   ·
    replace h2 := of_decide_eq_false h2
    refine WC.exit ?_
    refine At.thenexit ?_
    refine At.thenexit ?_
    refine At.blockexit ?_
    refine At.then_ ?_
    refine WC.seq ?_
    refine Qm ?_
    refine WL.callx hs Q0 (Yc.func Q0 fn13) (c_spec_DrawColorAt _ _ (Ph.old h_code hs)) ?_
    clear hs; intro v w ho hR hs
    obtain ⟨x48_l, x48_b, x48_n, rfl, hokx48_n, hx48, hf48⟩ := hR
    obtain ⟨F48, F48_2, hs⟩ := hs.addF2 ho hf48
    clear ho hf48
    refine Qm ?_
    refine WL.p Q0 (Yl.extract Q0 Q0) ?_
    refine WL.p Q0 (Yl.extract Q0 Q0) ?_
    refine WL.p Q0 (Yl.extract Q0 Q0) ?_
    refine WL.r Q0 (Yr.alloc hs zt40) ?_
    clear hs; rintro _ w ⟨b49, rfl, hb, hs⟩; clear hb
    refine Qa ?_
    refine WL.s (Yr.storeB hs Q0 Q0 Q0 Q5 Q3 Q0 (by exact szf40)) ?_
    clear hs; rintro _ w hs
    refine Qa ?_
    refine WL.next ?_
    refine WC.anyn mixed hs ?_
    clear hs; intro w hs
    refine WA.p (i := 0) Q0 Q6 Q6 Q6 Q0 (hs.only Q2) (fun w hs => Yl.move Q0) ?_
    refine WA.p (i := 1) Q0 Q6 Q6 Q6 Q0 (hs.only Q2) (fun w hs => Yl.move Q0) ?_
    refine WA.p (i := 3) Q0 Q6 Q6 Q6 Q0 (hs.only Q2) (fun w hs => Yl.loadAB agg27 Q0 hs Q1 Q0 Q0) ?_
    refine WA.p (i := 5) Q0 Q6 Q6 Q6 Q0 (hs.only Q2) (fun w hs => Yl.move Q0) ?_
    refine WA.two (i := 2) (j := 4) Q6 ?_ ?_
    ·
     refine WI.callp2 (i := 2) hs (fun _ hs => hs.only Q2) Q0 Q0 (Yc.func Q0 fn14) (c_impl_ColorOf _ _ _ (hs.okow (x := x45_l) (F := F45) Q1)) ?_
     clear hs; intro w hs
     refine WA.r (i := 4) Q6 Q0 Q0 (Yr.buildSlice hs sll30 Q0 Q0 Q0 Q4 Q0) (by rintro _ w ⟨b50, rfl, hb, hs⟩; exact hs.only Q2) ?_
     clear hs; rintro _ w ⟨b50, rfl, hb, hs⟩; clear hb
     refine WA.callp2 (i := 6) hs (fun _ hs => hs.only Q2) Q6 Q0 Q0 (Yc.func Q0 fn14) (c_impl_ColorOf (⟨[x46], some ⟨b50, 0, none⟩, 1⟩ : Sl PSheet) _ _ (Sat.oklit1 (x := x46) (b := b50) hs Q1 (hs.okow (x := x46) (F := F46) Q1))) ?_
     clear hs; intro w hs
     refine WA.p (i := 7) Q0 Q6 Q6 Q6 Q0 (hs.only Q2) (fun w hs => Yl.eqi Q0 Q0) ?_
     refine WA.p (i := 8) Q0 Q6 Q6 Q6 Q0 (hs.only Q2) (fun w hs => Yl.move Q0) ?_
     refine WA.split (d := 83) Q0 (fun h3 => ?_) (fun h3 => ?_)
     ·
      replace h3 := of_decide_eq_true h3
      refine WA.pg (i := 9) (d := 83) Q0 Q6 Q6 Q6 Q0 Q0 Q0 (hs.only Q2) (fun w hs => Yl.move Q0) ?_
      refine WA.pg (i := 10) (d := 83) Q0 Q6 Q6 Q6 Q0 Q0 Q0 (hs.only Q2) (fun w hs => Yl.loadAB agg40 Q0 hs Q1 Q0 Q0) ?_
      refine WA.pg (i := 11) (d := 83) Q0 Q6 Q6 Q6 Q0 Q0 Q0 (hs.only Q2) (fun w hs => Yl.move Q0) ?_
      refine WA.pg (i := 13) (d := 83) Q0 Q6 Q6 Q6 Q0 Q0 Q0 (hs.only Q2) (fun w hs => Yl.move Q0) ?_
      refine WA.pg (i := 14) (d := 83) Q0 Q6 Q6 Q6 Q0 Q0 Q0 (hs.only Q2) (fun w hs => Yl.loadAB agg40 Q0 hs Q1 Q0 Q0) ?_
      refine WA.pg (i := 15) (d := 83) Q0 Q6 Q6 Q6 Q0 Q0 Q0 (hs.only Q2) (fun w hs => Yl.move Q0) ?_
      refine WA.callp2g (i := 12) (d := 83) hs (fun _ hs => hs.only Q2) Q6 Q0 Q0 Q0 Q0 (Yc.func Q0 fn15) (c_impl_ColorAt _ _ _ _ (hs.okow (x := x48_l) (F := F48) Q1) (hs.okow (x := x48_b) (F := F48_2) Q1) (Flat.any hokx48_n)) ?_
      clear hs; intro w hs
      refine WA.callp2g (i := 16) (d := 83) hs (fun _ hs => hs.only Q2) Q6 Q0 Q0 Q0 Q0 (Yc.func Q0 fn16) (c_spec_ColorAt _ _ _ _ (hs.okow (x := x48_l) (F := F48) Q1) (hs.okow (x := x48_b) (F := F48_2) Q1) (Flat.any hokx48_n)) ?_
      clear hs; intro w hs
      refine WA.pg (i := 17) (d := 83) Q0 Q6 Q6 Q6 Q0 Q0 Q0 (hs.only Q2) (fun w hs => Yl.eqi Q0 Q0) ?_
      refine WA.p (i := 18) Q0 Q6 Q6 Q6 Q0 (hs.only Q2) (fun w hs => Yl.pickT Q0 Q0) ?_
      refine WA.p (i := 19) Q0 Q6 Q6 Q6 Q0 (hs.only Q2) (fun w hs => Yl.move Q0) ?_
      refine WA.split (d := 94) Q0 (fun h4 => ?_) (fun h4 => ?_)
      ·
       replace h4 := of_decide_eq_true h4
       refine WA.pg (i := 20) (d := 94) Q0 Q6 Q6 Q6 Q0 Q0 Q0 (hs.only Q2) (fun w hs => Yl.move Q0) ?_
       refine WA.pg (i := 21) (d := 94) Q0 Q6 Q6 Q6 Q0 Q0 Q0 (hs.only Q2) (fun w hs => Yl.loadAB agg40 Q0 hs Q1 Q0 Q0) ?_
       refine WA.pg (i := 22) (d := 94) Q0 Q6 Q6 Q6 Q0 Q0 Q0 (hs.only Q2) (fun w hs => Yl.move Q0) ?_
       refine WA.pg (i := 24) (d := 94) Q0 Q6 Q6 Q6 Q0 Q0 Q0 (hs.only Q2) (fun w hs => Yl.move Q0) ?_
       refine WA.pg (i := 27) (d := 94) Q0 Q6 Q6 Q6 Q0 Q0 Q0 (hs.only Q2) (fun w hs => Yl.loadAB agg40 Q0 hs Q1 Q0 Q0) ?_
       refine WA.pg (i := 28) (d := 94) Q0 Q6 Q6 Q6 Q0 Q0 Q0 (hs.only Q2) (fun w hs => Yl.move Q0) ?_
       refine WA.callp2g (i := 23) (d := 94) hs (fun _ hs => hs.only Q2) Q6 Q0 Q0 Q0 Q0 (Yc.func Q0 fn15) (c_impl_ColorAt _ _ _ _ (hs.okow (x := x48_l) (F := F48) Q1) (hs.okow (x := x48_b) (F := F48_2) Q1) (Flat.any hokx48_n)) ?_
       clear hs; intro w hs
       refine WA.call2g (i := 25) (d := 94) hs (fun _ hs => hs.only Q2) Q6 Q0 Q0 Q0 Q0 (Yc.func Q0 fn12) (c_impl_JoinSheets _ _ (hs.okow (x := x48_l) (F := F48) Q1) Q7) ?_
       have hs0 := hs; clear hs; intro v w hb hR hs; clear hs
       obtain ⟨x51, rfl, hx51, hf51⟩ := hR
       obtain ⟨F51, hs⟩ := hf51.sat hs0 hb; clear hs0 hf51
       have hj51 := fun nm => colorOf_join hx51 nm
       have hjl51 : x51.rules.l.length ≤ 200 := by
        rw [show x51.rules.l = _ from congrArg TSheet.rules hx51]
        exact Nat.le_trans (joinT_len _) hx48.1
       refine WA.one (i := 26)  Q6 ?_
       refine WI.rg (i := 26) (d := 94) Q0 Q0 Q0 Q0 (Yr.buildSlice hs sll30 Q0 Q0 Q0 Q4 Q0) (by rintro _ w ⟨b52, rfl, hb, hs⟩; exact hs.only Q2) ?_
       clear hs; rintro _ w ⟨b52, rfl, hb, hs⟩; clear hb
       refine WA.callp2g (i := 29) (d := 94) hs (fun _ hs => hs.only Q2) Q6 Q0 Q0 Q0 Q0 (Yc.func Q0 fn15) (c_impl_ColorAt (⟨[x51], some ⟨b52, 0, none⟩, 1⟩ : Sl PSheet) _ _ _ (Sat.oklit1 (x := x51) (b := b52) hs Q1 (hs.okow (x := x51) (F := F51) Q1)) (hs.okow (x := x48_b) (F := F48_2) Q1) (Flat.any hokx48_n)) ?_
       clear hs; intro w hs
       refine WA.pg (i := 30) (d := 94) Q0 Q6 Q6 Q6 Q0 Q0 Q0 (hs.only Q2) (fun w hs => Yl.eqi Q0 Q0) ?_
       refine WA.p (i := 31) Q0 Q6 Q6 Q6 Q0 (hs.only Q2) (fun w hs => Yl.pickT Q0 Q0) ?_
       refine WA.p (i := 32) Q0 Q6 Q6 Q6 Q0 (hs.only Q2) (fun w hs => Yl.assign Q0) ?_
       refine WA.donen Q6 ?_
       refine WC.ret ?_
       refine fin1' rfl Q0 ?_
       refine RetP.mk hs ?_
       first
        | rfl
        | (clear hs; simp_all; done)
      ·
       replace h4 := of_decide_eq_false h4
       refine WA.skip (i := 20) (d := 94) Q0 Q6 Q6 Q6 Q0 Q0 Q0 Q0 (hs.only Q2) ?_
       refine WA.skip (i := 21) (d := 94) Q0 Q6 Q6 Q6 Q0 Q0 Q0 Q0 (hs.only Q2) ?_
       refine WA.skip (i := 22) (d := 94) Q0 Q6 Q6 Q6 Q0 Q0 Q0 Q0 (hs.only Q2) ?_
       refine WA.skip (i := 23) (d := 94) Q0 Q6 Q6 Q6 Q0 Q0 Q0 Q0 (hs.only Q2) ?_
       refine WA.skip (i := 24) (d := 94) Q0 Q6 Q6 Q6 Q0 Q0 Q0 Q0 (hs.only Q2) ?_
       refine WA.skip (i := 25) (d := 94) Q0 Q6 Q6 Q6 Q0 Q0 Q0 Q0 (hs.only Q2) ?_
       refine WA.skip (i := 26) (d := 94) Q0 Q6 Q6 Q6 Q0 Q0 Q0 Q0 (hs.only Q2) ?_
       refine WA.skip (i := 27) (d := 94) Q0 Q6 Q6 Q6 Q0 Q0 Q0 Q0 (hs.only Q2) ?_
       refine WA.skip (i := 28) (d := 94) Q0 Q6 Q6 Q6 Q0 Q0 Q0 Q0 (hs.only Q2) ?_
       refine WA.skip (i := 29) (d := 94) Q0 Q6 Q6 Q6 Q0 Q0 Q0 Q0 (hs.only Q2) ?_
       refine WA.skip (i := 30) (d := 94) Q0 Q6 Q6 Q6 Q0 Q0 Q0 Q0 (hs.only Q2) ?_
       refine WA.p (i := 31) Q0 Q6 Q6 Q6 Q0 (hs.only Q2) (fun w hs => Yl.pickF Q0 Q0) ?_
       refine WA.p (i := 32) Q0 Q6 Q6 Q6 Q0 (hs.only Q2) (fun w hs => Yl.assign Q0) ?_
       refine WA.donen Q6 ?_
       refine WC.ret ?_
       refine fin1' rfl Q0 ?_
       refine RetP.mk hs ?_
       first
        | rfl
        | (clear hs; simp_all; done)
     ·
      replace h3 := of_decide_eq_false h3
      refine WA.skip (i := 9) (d := 83) Q0 Q6 Q6 Q6 Q0 Q0 Q0 Q0 (hs.only Q2) ?_
      refine WA.skip (i := 10) (d := 83) Q0 Q6 Q6 Q6 Q0 Q0 Q0 Q0 (hs.only Q2) ?_
      refine WA.skip (i := 11) (d := 83) Q0 Q6 Q6 Q6 Q0 Q0 Q0 Q0 (hs.only Q2) ?_
      refine WA.skip (i := 12) (d := 83) Q0 Q6 Q6 Q6 Q0 Q0 Q0 Q0 (hs.only Q2) ?_
      refine WA.skip (i := 13) (d := 83) Q0 Q6 Q6 Q6 Q0 Q0 Q0 Q0 (hs.only Q2) ?_
      refine WA.skip (i := 14) (d := 83) Q0 Q6 Q6 Q6 Q0 Q0 Q0 Q0 (hs.only Q2) ?_
      refine WA.skip (i := 15) (d := 83) Q0 Q6 Q6 Q6 Q0 Q0 Q0 Q0 (hs.only Q2) ?_
      refine WA.skip (i := 16) (d := 83) Q0 Q6 Q6 Q6 Q0 Q0 Q0 Q0 (hs.only Q2) ?_
      refine WA.skip (i := 17) (d := 83) Q0 Q6 Q6 Q6 Q0 Q0 Q0 Q0 (hs.only Q2) ?_
      refine WA.p (i := 18) Q0 Q6 Q6 Q6 Q0 (hs.only Q2) (fun w hs => Yl.pickF Q0 Q0) ?_
      refine WA.p (i := 19) Q0 Q6 Q6 Q6 Q0 (hs.only Q2) (fun w hs => Yl.move Q0) ?_
      refine WA.skip (i := 20) (d := 94) Q0 Q6 Q6 Q6 Q0 Q0 Q0 Q0 (hs.only Q2) ?_
      refine WA.skip (i := 21) (d := 94) Q0 Q6 Q6 Q6 Q0 Q0 Q0 Q0 (hs.only Q2) ?_
      refine WA.skip (i := 22) (d := 94) Q0 Q6 Q6 Q6 Q0 Q0 Q0 Q0 (hs.only Q2) ?_
      refine WA.skip (i := 23) (d := 94) Q0 Q6 Q6 Q6 Q0 Q0 Q0 Q0 (hs.only Q2) ?_
      refine WA.skip (i := 24) (d := 94) Q0 Q6 Q6 Q6 Q0 Q0 Q0 Q0 (hs.only Q2) ?_
      refine WA.skip (i := 25) (d := 94) Q0 Q6 Q6 Q6 Q0 Q0 Q0 Q0 (hs.only Q2) ?_
      refine WA.skip (i := 26) (d := 94) Q0 Q6 Q6 Q6 Q0 Q0 Q0 Q0 (hs.only Q2) ?_
      refine WA.skip (i := 27) (d := 94) Q0 Q6 Q6 Q6 Q0 Q0 Q0 Q0 (hs.only Q2) ?_
      refine WA.skip (i := 28) (d := 94) Q0 Q6 Q6 Q6 Q0 Q0 Q0 Q0 (hs.only Q2) ?_
      refine WA.skip (i := 29) (d := 94) Q0 Q6 Q6 Q6 Q0 Q0 Q0 Q0 (hs.only Q2) ?_
      refine WA.skip (i := 30) (d := 94) Q0 Q6 Q6 Q6 Q0 Q0 Q0 Q0 (hs.only Q2) ?_
      refine WA.p (i := 31) Q0 Q6 Q6 Q6 Q0 (hs.only Q2) (fun w hs => Yl.pickF Q0 Q0) ?_
      refine WA.p (i := 32) Q0 Q6 Q6 Q6 Q0 (hs.only Q2) (fun w hs => Yl.assign Q0) ?_
      refine WA.donen Q6 ?_
      refine WC.ret ?_
      refine fin1' rfl Q0 ?_
      refine RetP.mk hs ?_
      first
       | rfl
       | (clear hs; simp_all; done)
    ·
     refine WI.r (i := 4) Q0 Q0 (Yr.buildSlice hs sll30 Q0 Q0 Q0 Q4 Q0) (by rintro _ w ⟨b53, rfl, hb, hs⟩; exact hs.only Q2) ?_
     clear hs; rintro _ w ⟨b53, rfl, hb, hs⟩; clear hb
     refine WA.callp2 (i := 2) hs (fun _ hs => hs.only Q2) Q6 Q0 Q0 (Yc.func Q0 fn14) (c_impl_ColorOf _ _ _ (hs.okow (x := x45_l) (F := F45) Q1)) ?_
     clear hs; intro w hs
     refine WA.callp2 (i := 6) hs (fun _ hs => hs.only Q2) Q6 Q0 Q0 (Yc.func Q0 fn14) (c_impl_ColorOf (⟨[x46], some ⟨b53, 0, none⟩, 1⟩ : Sl PSheet) _ _ (Sat.oklit1 (x := x46) (b := b53) hs Q1 (hs.okow (x := x46) (F := F46) Q1))) ?_
     clear hs; intro w hs
     refine WA.p (i := 7) Q0 Q6 Q6 Q6 Q0 (hs.only Q2) (fun w hs => Yl.eqi Q0 Q0) ?_
     refine WA.p (i := 8) Q0 Q6 Q6 Q6 Q0 (hs.only Q2) (fun w hs => Yl.move Q0) ?_
     refine WA.split (d := 83) Q0 (fun h3 => ?_) (fun h3 => ?_)
     ·
      replace h3 := of_decide_eq_true h3
      refine WA.pg (i := 9) (d := 83) Q0 Q6 Q6 Q6 Q0 Q0 Q0 (hs.only Q2) (fun w hs => Yl.move Q0) ?_
      refine WA.pg (i := 10) (d := 83) Q0 Q6 Q6 Q6 Q0 Q0 Q0 (hs.only Q2) (fun w hs => Yl.loadAB agg40 Q0 hs Q1 Q0 Q0) ?_
      refine WA.pg (i := 11) (d := 83) Q0 Q6 Q6 Q6 Q0 Q0 Q0 (hs.only Q2) (fun w hs => Yl.move Q0) ?_
      refine WA.pg (i := 13) (d := 83) Q0 Q6 Q6 Q6 Q0 Q0 Q0 (hs.only Q2) (fun w hs => Yl.move Q0) ?_
      refine WA.pg (i := 14) (d := 83) Q0 Q6 Q6 Q6 Q0 Q0 Q0 (hs.only Q2) (fun w hs => Yl.loadAB agg40 Q0 hs Q1 Q0 Q0) ?_
      refine WA.pg (i := 15) (d := 83) Q0 Q6 Q6 Q6 Q0 Q0 Q0 (hs.only Q2) (fun w hs => Yl.move Q0) ?_
      refine WA.callp2g (i := 12) (d := 83) hs (fun _ hs => hs.only Q2) Q6 Q0 Q0 Q0 Q0 (Yc.func Q0 fn15) (c_impl_ColorAt _ _ _ _ (hs.okow (x := x48_l) (F := F48) Q1) (hs.okow (x := x48_b) (F := F48_2) Q1) (Flat.any hokx48_n)) ?_
      clear hs; intro w hs
      refine WA.callp2g (i := 16) (d := 83) hs (fun _ hs => hs.only Q2) Q6 Q0 Q0 Q0 Q0 (Yc.func Q0 fn16) (c_spec_ColorAt _ _ _ _ (hs.okow (x := x48_l) (F := F48) Q1) (hs.okow (x := x48_b) (F := F48_2) Q1) (Flat.any hokx48_n)) ?_
      clear hs; intro w hs
      refine WA.pg (i := 17) (d := 83) Q0 Q6 Q6 Q6 Q0 Q0 Q0 (hs.only Q2) (fun w hs => Yl.eqi Q0 Q0) ?_
      refine WA.p (i := 18) Q0 Q6 Q6 Q6 Q0 (hs.only Q2) (fun w hs => Yl.pickT Q0 Q0) ?_
      refine WA.p (i := 19) Q0 Q6 Q6 Q6 Q0 (hs.only Q2) (fun w hs => Yl.move Q0) ?_
      refine WA.split (d := 94) Q0 (fun h4 => ?_) (fun h4 => ?_)
      ·
       replace h4 := of_decide_eq_true h4
       refine WA.pg (i := 20) (d := 94) Q0 Q6 Q6 Q6 Q0 Q0 Q0 (hs.only Q2) (fun w hs => Yl.move Q0) ?_
       refine WA.pg (i := 21) (d := 94) Q0 Q6 Q6 Q6 Q0 Q0 Q0 (hs.only Q2) (fun w hs => Yl.loadAB agg40 Q0 hs Q1 Q0 Q0) ?_
       refine WA.pg (i := 22) (d := 94) Q0 Q6 Q6 Q6 Q0 Q0 Q0 (hs.only Q2) (fun w hs => Yl.move Q0) ?_
       refine WA.pg (i := 24) (d := 94) Q0 Q6 Q6 Q6 Q0 Q0 Q0 (hs.only Q2) (fun w hs => Yl.move Q0) ?_
       refine WA.pg (i := 27) (d := 94) Q0 Q6 Q6 Q6 Q0 Q0 Q0 (hs.only Q2) (fun w hs => Yl.loadAB agg40 Q0 hs Q1 Q0 Q0) ?_
       refine WA.pg (i := 28) (d := 94) Q0 Q6 Q6 Q6 Q0 Q0 Q0 (hs.only Q2) (fun w hs => Yl.move Q0) ?_
       refine WA.callp2g (i := 23) (d := 94) hs (fun _ hs => hs.only Q2) Q6 Q0 Q0 Q0 Q0 (Yc.func Q0 fn15) (c_impl_ColorAt _ _ _ _ (hs.okow (x := x48_l) (F := F48) Q1) (hs.okow (x := x48_b) (F := F48_2) Q1) (Flat.any hokx48_n)) ?_
       clear hs; intro w hs
       refine WA.call2g (i := 25) (d := 94) hs (fun _ hs => hs.only Q2) Q6 Q0 Q0 Q0 Q0 (Yc.func Q0 fn12) (c_impl_JoinSheets _ _ (hs.okow (x := x48_l) (F := F48) Q1) Q7) ?_
       have hs0 := hs; clear hs; intro v w hb hR hs; clear hs
       obtain ⟨x54, rfl, hx54, hf54⟩ := hR
       obtain ⟨F54, hs⟩ := hf54.sat hs0 hb; clear hs0 hf54
       have hj54 := fun nm => colorOf_join hx54 nm
       have hjl54 : x54.rules.l.length ≤ 200 := by
        rw [show x54.rules.l = _ from congrArg TSheet.rules hx54]
        exact Nat.le_trans (joinT_len _) hx48.1
       refine WA.one (i := 26)  Q6 ?_
       refine WI.rg (i := 26) (d := 94) Q0 Q0 Q0 Q0 (Yr.buildSlice hs sll30 Q0 Q0 Q0 Q4 Q0) (by rintro _ w ⟨b55, rfl, hb, hs⟩; exact hs.only Q2) ?_
       clear hs; rintro _ w ⟨b55, rfl, hb, hs⟩; clear hb
       refine WA.callp2g (i := 29) (d := 94) hs (fun _ hs => hs.only Q2) Q6 Q0 Q0 Q0 Q0 (Yc.func Q0 fn15) (c_impl_ColorAt (⟨[x54], some ⟨b55, 0, none⟩, 1⟩ : Sl PSheet) _ _ _ (Sat.oklit1 (x := x54) (b := b55) hs Q1 (hs.okow (x := x54) (F := F54) Q1)) (hs.okow (x := x48_b) (F := F48_2) Q1) (Flat.any hokx48_n)) ?_
       clear hs; intro w hs
       refine WA.pg (i := 30) (d := 94) Q0 Q6 Q6 Q6 Q0 Q0 Q0 (hs.only Q2) (fun w hs => Yl.eqi Q0 Q0) ?_
       refine WA.p (i := 31) Q0 Q6 Q6 Q6 Q0 (hs.only Q2) (fun w hs => Yl.pickT Q0 Q0) ?_
       refine WA.p (i := 32) Q0 Q6 Q6 Q6 Q0 (hs.only Q2) (fun w hs => Yl.assign Q0) ?_
       refine WA.donen Q6 ?_
       refine WC.ret ?_
       refine fin1' rfl Q0 ?_
       refine RetP.mk hs ?_
       first
        | rfl
        | (clear hs; simp_all; done)
      ·
       replace h4 := of_decide_eq_false h4
       refine WA.skip (i := 20) (d := 94) Q0 Q6 Q6 Q6 Q0 Q0 Q0 Q0 (hs.only Q2) ?_
       refine WA.skip (i := 21) (d := 94) Q0 Q6 Q6 Q6 Q0 Q0 Q0 Q0 (hs.only Q2) ?_
       refine WA.skip (i := 22) (d := 94) Q0 Q6 Q6 Q6 Q0 Q0 Q0 Q0 (hs.only Q2) ?_
       refine WA.skip (i := 23) (d := 94) Q0 Q6 Q6 Q6 Q0 Q0 Q0 Q0 (hs.only Q2) ?_
       refine WA.skip (i := 24) (d := 94) Q0 Q6 Q6 Q6 Q0 Q0 Q0 Q0 (hs.only Q2) ?_
       refine WA.skip (i := 25) (d := 94) Q0 Q6 Q6 Q6 Q0 Q0 Q0 Q0 (hs.only Q2) ?_
       refine WA.skip (i := 26) (d := 94) Q0 Q6 Q6 Q6 Q0 Q0 Q0 Q0 (hs.only Q2) ?_
       refine WA.skip (i := 27) (d := 94) Q0 Q6 Q6 Q6 Q0 Q0 Q0 Q0 (hs.only Q2) ?_
       refine WA.skip (i := 28) (d := 94) Q0 Q6 Q6 Q6 Q0 Q0 Q0 Q0 (hs.only Q2) ?_
       refine WA.skip (i := 29) (d := 94) Q0 Q6 Q6 Q6 Q0 Q0 Q0 Q0 (hs.only Q2) ?_
       refine WA.skip (i := 30) (d := 94) Q0 Q6 Q6 Q6 Q0 Q0 Q0 Q0 (hs.only Q2) ?_
       refine WA.p (i := 31) Q0 Q6 Q6 Q6 Q0 (hs.only Q2) (fun w hs => Yl.pickF Q0 Q0) ?_
       refine WA.p (i := 32) Q0 Q6 Q6 Q6 Q0 (hs.only Q2) (fun w hs => Yl.assign Q0) ?_
       refine WA.donen Q6 ?_
       refine WC.ret ?_
       refine fin1' rfl Q0 ?_
       refine RetP.mk hs ?_
       first
        | rfl
        | (clear hs; simp_all; done)
     ·
      replace h3 := of_decide_eq_false h3
      refine WA.skip (i := 9) (d := 83) Q0 Q6 Q6 Q6 Q0 Q0 Q0 Q0 (hs.only Q2) ?_
      refine WA.skip (i := 10) (d := 83) Q0 Q6 Q6 Q6 Q0 Q0 Q0 Q0 (hs.only Q2) ?_
      refine WA.skip (i := 11) (d := 83) Q0 Q6 Q6 Q6 Q0 Q0 Q0 Q0 (hs.only Q2) ?_
      refine WA.skip (i := 12) (d := 83) Q0 Q6 Q6 Q6 Q0 Q0 Q0 Q0 (hs.only Q2) ?_
      refine WA.skip (i := 13) (d := 83) Q0 Q6 Q6 Q6 Q0 Q0 Q0 Q0 (hs.only Q2) ?_
      refine WA.skip (i := 14) (d := 83) Q0 Q6 Q6 Q6 Q0 Q0 Q0 Q0 (hs.only Q2) ?_
      refine WA.skip (i := 15) (d := 83) Q0 Q6 Q6 Q6 Q0 Q0 Q0 Q0 (hs.only Q2) ?_
      refine WA.skip (i := 16) (d := 83) Q0 Q6 Q6 Q6 Q0 Q0 Q0 Q0 (hs.only Q2) ?_
      refine WA.skip (i := 17) (d := 83) Q0 Q6 Q6 Q6 Q0 Q0 Q0 Q0 (hs.only Q2) ?_
      refine WA.p (i := 18) Q0 Q6 Q6 Q6 Q0 (hs.only Q2) (fun w hs => Yl.pickF Q0 Q0) ?_
      refine WA.p (i := 19) Q0 Q6 Q6 Q6 Q0 (hs.only Q2) (fun w hs => Yl.move Q0) ?_
      refine WA.skip (i := 20) (d := 94) Q0 Q6 Q6 Q6 Q0 Q0 Q0 Q0 (hs.only Q2) ?_
      refine WA.skip (i := 21) (d := 94) Q0 Q6 Q6 Q6 Q0 Q0 Q0 Q0 (hs.only Q2) ?_
      refine WA.skip (i := 22) (d := 94) Q0 Q6 Q6 Q6 Q0 Q0 Q0 Q0 (hs.only Q2) ?_
      refine WA.skip (i := 23) (d := 94) Q0 Q6 Q6 Q6 Q0 Q0 Q0 Q0 (hs.only Q2) ?_
      refine WA.skip (i := 24) (d := 94) Q0 Q6 Q6 Q6 Q0 Q0 Q0 Q0 (hs.only Q2) ?_
      refine WA.skip (i := 25) (d := 94) Q0 Q6 Q6 Q6 Q0 Q0 Q0 Q0 (hs.only Q2) ?_
      refine WA.skip (i := 26) (d := 94) Q0 Q6 Q6 Q6 Q0 Q0 Q0 Q0 (hs.only Q2) ?_
      refine WA.skip (i := 27) (d := 94) Q0 Q6 Q6 Q6 Q0 Q0 Q0 Q0 (hs.only Q2) ?_
      refine WA.skip (i := 28) (d := 94) Q0 Q6 Q6 Q6 Q0 Q0 Q0 Q0 (hs.only Q2) ?_
      refine WA.skip (i := 29) (d := 94) Q0 Q6 Q6 Q6 Q0 Q0 Q0 Q0 (hs.only Q2) ?_
      refine WA.skip (i := 30) (d := 94) Q0 Q6 Q6 Q6 Q0 Q0 Q0 Q0 (hs.only Q2) ?_
      refine WA.p (i := 31) Q0 Q6 Q6 Q6 Q0 (hs.only Q2) (fun w hs => Yl.pickF Q0 Q0) ?_
      refine WA.p (i := 32) Q0 Q6 Q6 Q6 Q0 (hs.only Q2) (fun w hs => Yl.assign Q0) ?_
      refine WA.donen Q6 ?_
      refine WC.ret ?_
      refine fin1' rfl Q0 ?_
      refine RetP.mk hs ?_
      first
       | rfl
       | (clear hs; simp_all; done)

end Go.Sw
