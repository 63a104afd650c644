/- Walks: what each function of the program returns, for every input. Printed by gen.py. -/
import Derived.Test.YtpnmdcomdakdmaaGreatDoorW1
set_option linter.all false
namespace Go.Sw
open Go Go.RowKit Go.Proofs

theorem c_spec_ParsePolicy (s : Str) (w : World)  (hb : s.length ≤ 1048576) : Calls Tryz.prog 233 [S s].toArray w (Ret w (fun v w' => ∃ x : PPolicy, v = .tuple #[.agg (Ph.enc x).toArray, Bo (policyIs s)] ∧ x.lg = policyOf s ∧ Fresh w x w')) := by
 refine enterN 52 Tryz.func233 rfl rfl rfl ?_
 have hs := Sat.start w
 refine WC.seq ?_
 refine WL.r Q0 (Yr.alloc hs zt108) ?_
 clear hs; rintro _ w ⟨b1, rfl, hb, hs⟩; clear hb
 refine Qa ?_
 refine WL.next ?_
 refine WC.seq' ?_
 refine WC.seq ?_
 refine Qm ?_
 refine WL.p Q0 (Yl.eqs Q0 Q0) ?_
 refine WL.next ?_
 refine WC.condS Q0 (fun h1 => ?_) (fun h1 => ?_)
 ·
  replace h1 := of_decide_eq_true h1
  refine WC.seq ?_
  refine WL.p Q0 (Yl.build bt108 Q0 Q4) ?_
  refine WL.s (Yr.storeB hs Q0 Q0 Q0 Q5 Q3 Q0 (by exact szf108)) ?_
  clear hs; rintro _ w hs
  refine Qa ?_
  refine WL.next ?_
  refine WC.ret ?_
  refine At.thenret ?_
  refine fin2c rfl agg108 Q0 Q0 hs Q1 Q0 ?_
  refine Ret.mk hs ?_
  have hb9 : policyIs s = true := policyIs_nil h1
  exact ⟨⟨false, ⟨[], none, 0⟩, ⟨[], none, 0⟩, ⟨[], none, 0⟩, []⟩, by rw [hb9]; rfl, (policyOf_no (.inl h1)).symm, ⟨⟨[], PPolicy.zown _, .nil, fun b h => by cases h⟩⟩⟩
 ·
  replace h1 := of_decide_eq_false h1
  refine WC.skipn ?_
  refine WC.seq ?_
  refine Qm ?_
  refine WL.call hs Q0 (Yc.func Q0 fn109) (c_spec_l5Split _ 59 _ Q10) ?_
  have hs0 := hs; clear hs; intro v w hb hR hs; clear hs
  obtain ⟨x2, rfl, hx2, hf2⟩ := hR
  obtain ⟨F2, hs⟩ := hf2.sat hs0 hb; clear hs0 hf2
  have hle2 := Sl.Ok.le (hs.okow (x := x2) (F := F2) Q1)
  refine Qa ?_
  refine WL.next ?_
  refine WC.seq' ?_
  refine WC.seq ?_
  refine Qm ?_
  refine WL.p Q0 (Yl.len_sl slu34 Q0) ?_
  refine WL.p Q0 (Yl.lss Q0 Q0) ?_
  refine WL.next ?_
  refine WC.condS Q0 (fun h2 => ?_) (fun h2 => ?_)
  ·
   replace h2 := of_decide_eq_true h2
   refine WC.seq ?_
   refine WL.p Q0 (Yl.build bt108 Q0 Q4) ?_
   refine WL.s (Yr.storeB hs Q0 Q0 Q0 Q5 Q3 Q0 (by exact szf108)) ?_
   clear hs; rintro _ w hs
   refine Qa ?_
   refine WL.next ?_
   refine WC.ret ?_
   refine At.thenret ?_
   refine fin2c rfl agg108 Q0 Q0 hs Q1 Q0 ?_
   refine Ret.mk hs ?_
   have hb9 : policyIs s = false := policyIs_short h1 (by rw [← show x2.l = splitC 59 s from hx2]; omega)
   exact ⟨⟨false, ⟨[], none, 0⟩, ⟨[], none, 0⟩, ⟨[], none, 0⟩, []⟩, by rw [hb9]; rfl, (policyOf_no (.inr hb9)).symm, ⟨⟨[], PPolicy.zown _, .nil, fun b h => by cases h⟩⟩⟩
  ·
   replace h2 := of_decide_eq_false h2
   have h39 := getD_len (s := s) (i := 3)
   rw [← show x2.l = splitC 59 s from hx2] at h39
   refine WC.skipn ?_
   refine WC.anyn mixed hs ?_
   clear hs; intro w hs
   refine WA.p (i := 0) Q0 Q6 Q6 Q6 Q0 (hs.only Q2) (fun w hs => Yl.move Q0) ?_
   refine WA.p (i := 1) Q0 Q6 Q6 Q6 Q0 (hs.only Q2) (fun w hs => Yl.indexAddr (k := 0) slt34 Q0 Q0 (hs.okow (x := x2) (F := F2) Q1) Q0 ((getD_some (i := 0) (z := ([] : Str)) Q7))) ?_
   refine WA.p (i := 2) Q0 Q6 Q6 Q6 Q0 (hs.only Q2) (fun w hs => Yl.loadC0 sca9 Q0 (Sl.Ok.at_ (hs.okow (x := x2) (F := F2) Q1) ((getD_some (i := 0) (z := ([] : Str)) Q7))).2 Q0) ?_
   refine WA.p (i := 5) Q0 Q6 Q6 Q6 Q0 (hs.only Q2) (fun w hs => Yl.move Q0) ?_
   refine WA.p (i := 6) Q0 Q6 Q6 Q6 Q0 (hs.only Q2) (fun w hs => Yl.indexAddr (k := 1) slt34 Q0 Q0 (hs.okow (x := x2) (F := F2) Q1) Q0 ((getD_some (i := 1) (z := ([] : Str)) Q7))) ?_
   refine WA.p (i := 7) Q0 Q6 Q6 Q6 Q0 (hs.only Q2) (fun w hs => Yl.loadC0 sca9 Q0 (Sl.Ok.at_ (hs.okow (x := x2) (F := F2) Q1) ((getD_some (i := 1) (z := ([] : Str)) Q7))).2 Q0) ?_
   refine WA.p (i := 10) Q0 Q6 Q6 Q6 Q0 (hs.only Q2) (fun w hs => Yl.move Q0) ?_
   refine WA.p (i := 11) Q0 Q6 Q6 Q6 Q0 (hs.only Q2) (fun w hs => Yl.indexAddr (k := 2) slt34 Q0 Q0 (hs.okow (x := x2) (F := F2) Q1) Q0 ((getD_some (i := 2) (z := ([] : Str)) Q7))) ?_
   refine WA.p (i := 12) Q0 Q6 Q6 Q6 Q0 (hs.only Q2) (fun w hs => Yl.loadC0 sca9 Q0 (Sl.Ok.at_ (hs.okow (x := x2) (F := F2) Q1) ((getD_some (i := 2) (z := ([] : Str)) Q7))).2 Q0) ?_
   refine WA.two (i := 3) (j := 16) Q6 ?_ ?_
   ·
    refine WI.call2 (i := 3) hs (fun _ hs => hs.only Q2) Q0 Q0 (Yc.func Q0 fn109) (c_spec_l5Split _ 32 _ (by first | (have := getD_len (s := s) (i := 0); rw [← show x2.l = splitC 59 s from hx2] at this; omega) | (have := getD_len (s := s) (i := 1); rw [← show x2.l = splitC 59 s from hx2] at this; omega) | (have := getD_len (s := s) (i := 2); rw [← show x2.l = splitC 59 s from hx2] at this; omega) | (have := getD_len (s := s) (i := 3); rw [← show x2.l = splitC 59 s from hx2] at this; omega))) ?_
    have hs0 := hs; clear hs; intro v w hb hR hs; clear hs
    obtain ⟨x3, rfl, hx3, hf3⟩ := hR
    obtain ⟨F3, hs⟩ := hf3.sat hs0 hb; clear hs0 hf3
    have hle3 := Sl.Ok.le (hs.okow (x := x3) (F := F3) Q1)
    refine WA.p (i := 4) Q0 Q6 Q6 Q6 Q0 (hs.only Q2) (fun w hs => Yl.slice_sl (s := x3) (l := 1) (h := x3.l.length) slt34 Q0 hle3 (by exact ⟨_, by rfl⟩) (by exact rfl) (by rw [hx3]; exact List.length_pos_iff.2 (splitC_ne _ _)) (by exact Nat.le_refl _)) ?_
    refine WA.two (i := 8) (j := 16) Q6 ?_ ?_
    ·
     refine WI.call2 (i := 8) hs (fun _ hs => hs.only Q2) Q0 Q0 (Yc.func Q0 fn109) (c_spec_l5Split _ 32 _ (by first | (have := getD_len (s := s) (i := 0); rw [← show x2.l = splitC 59 s from hx2] at this; omega) | (have := getD_len (s := s) (i := 1); rw [← show x2.l = splitC 59 s from hx2] at this; omega) | (have := getD_len (s := s) (i := 2); rw [← show x2.l = splitC 59 s from hx2] at this; omega) | (have := getD_len (s := s) (i := 3); rw [← show x2.l = splitC 59 s from hx2] at this; omega))) ?_
     have hs0 := hs; clear hs; intro v w hb hR hs; clear hs
     obtain ⟨x4, rfl, hx4, hf4⟩ := hR
     obtain ⟨F4, hs⟩ := hf4.sat hs0 hb; clear hs0 hf4
     have hle4 := Sl.Ok.le (hs.okow (x := x4) (F := F4) Q1)
     refine WA.p (i := 9) Q0 Q6 Q6 Q6 Q0 (hs.only Q2) (fun w hs => Yl.slice_sl (s := x4) (l := 1) (h := x4.l.length) slt34 Q0 hle4 (by exact ⟨_, by rfl⟩) (by exact rfl) (by rw [hx4]; exact List.length_pos_iff.2 (splitC_ne _ _)) (by exact Nat.le_refl _)) ?_
     refine WA.two (i := 13) (j := 16) Q6 ?_ ?_
     ·
      refine WI.call2 (i := 13) hs (fun _ hs => hs.only Q2) Q0 Q0 (Yc.func Q0 fn109) (c_spec_l5Split _ 32 _ (by first | (have := getD_len (s := s) (i := 0); rw [← show x2.l = splitC 59 s from hx2] at this; omega) | (have := getD_len (s := s) (i := 1); rw [← show x2.l = splitC 59 s from hx2] at this; omega) | (have := getD_len (s := s) (i := 2); rw [← show x2.l = splitC 59 s from hx2] at this; omega) | (have := getD_len (s := s) (i := 3); rw [← show x2.l = splitC 59 s from hx2] at this; omega))) ?_
      have hs0 := hs; clear hs; intro v w hb hR hs; clear hs
      obtain ⟨x5, rfl, hx5, hf5⟩ := hR
      obtain ⟨F5, hs⟩ := hf5.sat hs0 hb; clear hs0 hf5
      have hle5 := Sl.Ok.le (hs.okow (x := x5) (F := F5) Q1)
      refine WA.p (i := 14) Q0 Q6 Q6 Q6 Q0 (hs.only Q2) (fun w hs => Yl.slice_sl (s := x5) (l := 1) (h := x5.l.length) slt34 Q0 hle5 (by exact ⟨_, by rfl⟩) (by exact rfl) (by rw [hx5]; exact List.length_pos_iff.2 (splitC_ne _ _)) (by exact Nat.le_refl _)) ?_
      refine WA.p (i := 15) Q0 Q6 Q6 Q6 Q0 (hs.only Q2) (fun w hs => Yl.build bt108 Q0 Q4) ?_
      refine WA.r (i := 16) Q6 Q0 Q0 (Yr.alloc hs zt108) (by rintro _ w ⟨b6, rfl, hb, hs⟩; exact hs.only Q2) ?_
      clear hs; rintro _ w ⟨b6, rfl, hb, hs⟩; clear hb
      refine WA.s (i := 17) Q6 Q0 (Yr.storeB hs Q0 Q0 Q0 Q5 Q3 Q0 (by exact szf108)) (by rintro _ w hs; exact hs.only Q2) ?_
      clear hs; rintro _ w hs
      refine WA.donen Q6 ?_
      refine WC.seq' ?_
      refine WC.seq ?_
      refine Qm ?_
      refine WL.p Q0 (Yl.len_sl slu34 Q0) ?_
      refine WL.p Q0 (Yl.gtr Q0 Q0) ?_
      refine Qm ?_
      refine WL.split (d := 34) Q0 (fun h3 => ?_) (fun h3 => ?_)
      ·
       replace h3 := of_decide_eq_true h3
       refine WL.run (d := 34) Q0 Q0 ?_
       refine Qm ?_
       refine WL.run (d := 34) Q0 Q0 ?_
       refine WL.p Q0 (Yl.indexAddr (k := 3) slt34 Q0 Q0 (hs.okow (x := x2) (F := F2) Q1) Q0 ((getD_some (i := 3) (z := ([] : Str)) Q7))) ?_
       refine WL.run (d := 34) Q0 Q0 ?_
       refine WL.p Q0 (Yl.loadC0 sca9 Q0 (Sl.Ok.at_ (hs.okow (x := x2) (F := F2) Q1) ((getD_some (i := 3) (z := ([] : Str)) Q7))).2 Q0) ?_
       refine WL.run (d := 34) Q0 Q0 ?_
       refine WL.p Q0 (Yl.len_str str9 Q0) ?_
       refine WL.run (d := 34) Q0 Q0 ?_
       refine WL.p Q0 (Yl.gtr Q0 Q0) ?_
       refine WL.p Q0 (Yl.pickT Q0 Q0) ?_
       refine WL.next ?_
       refine WC.condS Q0 (fun h4 => ?_) (fun h4 => ?_)
       ·
        replace h4 := of_decide_eq_true h4
        refine WC.region ?_
        refine Qm ?_
        refine WL.p Q0 (Yl.indexAddr (k := 3) slt34 Q0 Q0 (hs.okow (x := x2) (F := F2) Q1) Q0 ((getD_some (i := 3) (z := ([] : Str)) Q7))) ?_
        refine WL.p Q0 (Yl.loadC0 sca9 Q0 (Sl.Ok.at_ (hs.okow (x := x2) (F := F2) Q1) ((getD_some (i := 3) (z := ([] : Str)) Q7))).2 Q0) ?_
        refine WL.p Q0 (Yl.slice_str (l := 6) str9 Q0 (by exact ⟨_, by rfl⟩) (by exact rfl) Q7 Q7) ?_
        refine WL.p Q0 (Yl.fieldAddr fa108_4 Q0) ?_
        refine WL.s (Yr.storeB hs Q0 Q0 Q0 Q5 Q3 Q0 (by exact szf9)) ?_
        clear hs; rintro _ w hs
        refine WL.nil ?_
        refine At.then_ ?_
        refine WC.seq' ?_
        refine WC.seq ?_
        refine WL.p Q0 (Yl.loadAB agg108 Q0 hs Q1 Q0 Q0) ?_
        have hpl9 : PPolicy.lg (⟨true, (x3.cut 1 x3.l.length), (x4.cut 1 x4.l.length), (x5.cut 1 x5.l.length), (((x2.l.getD 3 []).drop 6).take ((x2.l.getD 3 []).length - 6))⟩ : PPolicy) = polS s := by
         have e2 : x2.l = splitC 59 s := hx2
         have g0 : x3.l = splitC 32 ((splitC 59 s).getD 0 []) := by rw [← e2]; exact hx3
         have g1 : x4.l = splitC 32 ((splitC 59 s).getD 1 []) := by rw [← e2]; exact hx4
         have g2 : x5.l = splitC 32 ((splitC 59 s).getD 2 []) := by rw [← e2]; exact hx5
         have c0 : (x3.cut 1 x3.l.length).l = (splitC 32 ((splitC 59 s).getD 0 [])).tail := by rw [Sl.cut_full, g0, List.drop_one]
         have c1 : (x4.cut 1 x4.l.length).l = (splitC 32 ((splitC 59 s).getD 1 [])).tail := by rw [Sl.cut_full, g1, List.drop_one]
         have c2 : (x5.cut 1 x5.l.length).l = (splitC 32 ((splitC 59 s).getD 2 [])).tail := by rw [Sl.cut_full, g2, List.drop_one]
         simp only [PPolicy.lg, polS, polOf, c0, c1, c2, TPolicy.mk.injEq, true_and]
         rw [← e2]
         first
          | (rw [if_neg (show ¬ 3 < x2.l.length from fun h => by omega)]; done)
          | (rw [if_pos (show 3 < x2.l.length from Int.ofNat_lt.1 Q7)]; done)
          | (rw [if_pos (show 3 < x2.l.length from Int.ofNat_lt.1 Q7)]
             simp only [nonceS, nonceI]
             first
               | (rfl; done)
               | (rw [if_neg Q7]; done)
               | (rw [if_pos Q7, List.take_of_length_le (by simp)]; done)
               | (rw [if_pos Q7]; done))
        refine WL.callp hs Q0 (Yc.func Q0 fn230) (c_spec_FormatPolicy (⟨true, (x3.cut 1 x3.l.length), (x4.cut 1 x4.l.length), (x5.cut 1 x5.l.length), (((x2.l.getD 3 []).drop 6).take ((x2.l.getD 3 []).length - 6))⟩ : PPolicy) _ ⟨trivial, (Sl.Ok.cut (hs.okow (x := x3) (F := F3) Q1) (by rw [hx3]; exact List.length_pos_iff.2 (splitC_ne _ _)) (by exact Nat.le_refl _)), (Sl.Ok.cut (hs.okow (x := x4) (F := F4) Q1) (by rw [hx4]; exact List.length_pos_iff.2 (splitC_ne _ _)) (by exact Nat.le_refl _)), (Sl.Ok.cut (hs.okow (x := x5) (F := F5) Q1) (by rw [hx5]; exact List.length_pos_iff.2 (splitC_ne _ _)) (by exact Nat.le_refl _)), (by show WfS _; unfold WfS; simp only [List.length_take, List.length_drop]; omega)⟩ (by rw [hpl9]; have := polS_size (s := s) (by rw [← show x2.l = splitC 59 s from hx2]; omega); omega)) ?_
        clear hs; intro w hs
        refine Qm ?_
        refine WL.p Q0 (Yl.nes Q0 Q0) ?_
        refine WL.next ?_
        refine WC.condS Q0 (fun h5 => ?_) (fun h5 => ?_)
        ·
         replace h5 := not_eq_true h5
         replace h5 := of_decide_eq_false h5
         refine WC.seq ?_
         refine WL.p Q0 (Yl.build bt108 Q0 Q4) ?_
         refine WL.s (Yr.storeB hs Q0 Q0 Q0 Q5 Q3 Q0 (by exact szf108)) ?_
         clear hs; rintro _ w hs
         refine Qa ?_
         refine WL.next ?_
         refine WC.ret ?_
         refine At.thenret ?_
         refine fin2c rfl agg108 Q0 Q0 hs Q1 Q0 ?_
         refine Ret.mk hs ?_
         rw [hpl9] at h5
         have hb9 : policyIs s = false := policyIs_bad h1 h5
         exact ⟨⟨false, ⟨[], none, 0⟩, ⟨[], none, 0⟩, ⟨[], none, 0⟩, []⟩, by rw [hb9]; rfl, (policyOf_no (.inr hb9)).symm, ⟨⟨[], PPolicy.zown _, .nil, fun b h => by cases h⟩⟩⟩
        ·
         replace h5 := not_eq_false h5
         replace h5 := of_decide_eq_true h5
         refine WC.skipn ?_
         refine WC.seq ?_
         refine WL.p Q0 (Yl.loadAB agg108 Q0 hs Q1 Q0 Q0) ?_
         refine WL.s (Yr.storeB hs Q0 Q0 Q0 Q5 Q3 Q0 (by exact szf108)) ?_
         clear hs; rintro _ w hs
         refine Qa ?_
         refine WL.next ?_
         refine WC.ret ?_
         refine fin2c rfl agg108 Q0 Q0 hs Q1 Q0 ?_
         refine Ret.mk hs ?_
         rw [hpl9] at h5
         have hq9 : x2.l = splitC 59 s := hx2
         have h49 : 3 ≤ (splitC 59 s).length := by rw [← hq9]; omega
         have hb9 : policyIs s = true := policyIs_good h5 h49
         obtain ⟨G90, hs⟩ := Sat.cutow (lo := 1) (hi := x3.l.length) (hs.sel (D := [ow x3 F3]) Q2) (by rw [hx3]; exact List.length_pos_iff.2 (splitC_ne _ _)) (Nat.le_refl _)
         obtain ⟨G91, hs⟩ := Sat.cutow (lo := 1) (hi := x4.l.length) (hs.sel (D := [ow x4 F4]) Q2) (by rw [hx4]; exact List.length_pos_iff.2 (splitC_ne _ _)) (Nat.le_refl _)
         obtain ⟨G92, hs⟩ := Sat.cutow (lo := 1) (hi := x5.l.length) (hs.sel (D := [ow x5 F5]) Q2) (by rw [hx5]; exact List.length_pos_iff.2 (splitC_ne _ _)) (Nat.le_refl _)
         refine ⟨(⟨true, (x3.cut 1 x3.l.length), (x4.cut 1 x4.l.length), (x5.cut 1 x5.l.length), (((x2.l.getD 3 []).drop 6).take ((x2.l.getD 3 []).length - 6))⟩ : PPolicy), by rw [hb9]; rfl, hpl9.trans (policyOf_good h1 hb9).symm, ?_⟩
         exact (PPolicy.join _ (hs.only (D := [ow (x3.cut 1 x3.l.length) G90, ow (x4.cut 1 x4.l.length) G91, ow (x5.cut 1 x5.l.length) G92]) Q2) trivial (by show WfS _; unfold WfS; first | (simp only [List.length_take, List.length_drop]; omega) | simp)).fresh List.mem_cons_self
       ·
        replace h4 := of_decide_eq_false h4
        refine WC.skipn ?_
        refine WC.seq' ?_
        refine WC.seq ?_
        refine WL.p Q0 (Yl.loadAB agg108 Q0 hs Q1 Q0 Q0) ?_
        have hpl9 : PPolicy.lg (⟨true, (x3.cut 1 x3.l.length), (x4.cut 1 x4.l.length), (x5.cut 1 x5.l.length), ([] : Str)⟩ : PPolicy) = polS s := by
         have e2 : x2.l = splitC 59 s := hx2
         have g0 : x3.l = splitC 32 ((splitC 59 s).getD 0 []) := by rw [← e2]; exact hx3
         have g1 : x4.l = splitC 32 ((splitC 59 s).getD 1 []) := by rw [← e2]; exact hx4
         have g2 : x5.l = splitC 32 ((splitC 59 s).getD 2 []) := by rw [← e2]; exact hx5
         have c0 : (x3.cut 1 x3.l.length).l = (splitC 32 ((splitC 59 s).getD 0 [])).tail := by rw [Sl.cut_full, g0, List.drop_one]
         have c1 : (x4.cut 1 x4.l.length).l = (splitC 32 ((splitC 59 s).getD 1 [])).tail := by rw [Sl.cut_full, g1, List.drop_one]
         have c2 : (x5.cut 1 x5.l.length).l = (splitC 32 ((splitC 59 s).getD 2 [])).tail := by rw [Sl.cut_full, g2, List.drop_one]
         simp only [PPolicy.lg, polS, polOf, c0, c1, c2, TPolicy.mk.injEq, true_and]
         rw [← e2]
         first
          | (rw [if_neg (show ¬ 3 < x2.l.length from fun h => by omega)]; done)
          | (rw [if_pos (show 3 < x2.l.length from Int.ofNat_lt.1 Q7)]; done)
          | (rw [if_pos (show 3 < x2.l.length from Int.ofNat_lt.1 Q7)]
             simp only [nonceS, nonceI]
             first
               | (rfl; done)
               | (rw [if_neg Q7]; done)
               | (rw [if_pos Q7, List.take_of_length_le (by simp)]; done)
               | (rw [if_pos Q7]; done))
        refine WL.callp hs Q0 (Yc.func Q0 fn230) (c_spec_FormatPolicy (⟨true, (x3.cut 1 x3.l.length), (x4.cut 1 x4.l.length), (x5.cut 1 x5.l.length), ([] : Str)⟩ : PPolicy) _ ⟨trivial, (Sl.Ok.cut (hs.okow (x := x3) (F := F3) Q1) (by rw [hx3]; exact List.length_pos_iff.2 (splitC_ne _ _)) (by exact Nat.le_refl _)), (Sl.Ok.cut (hs.okow (x := x4) (F := F4) Q1) (by rw [hx4]; exact List.length_pos_iff.2 (splitC_ne _ _)) (by exact Nat.le_refl _)), (Sl.Ok.cut (hs.okow (x := x5) (F := F5) Q1) (by rw [hx5]; exact List.length_pos_iff.2 (splitC_ne _ _)) (by exact Nat.le_refl _)), (show WfS [] from Nat.zero_le _)⟩ (by rw [hpl9]; have := polS_size (s := s) (by rw [← show x2.l = splitC 59 s from hx2]; omega); omega)) ?_
        clear hs; intro w hs
        refine Qm ?_
        refine WL.p Q0 (Yl.nes Q0 Q0) ?_
        refine WL.next ?_
        refine WC.condS Q0 (fun h5 => ?_) (fun h5 => ?_)
        ·
         replace h5 := not_eq_true h5
         replace h5 := of_decide_eq_false h5
         refine WC.seq ?_
         refine WL.p Q0 (Yl.build bt108 Q0 Q4) ?_
         refine WL.s (Yr.storeB hs Q0 Q0 Q0 Q5 Q3 Q0 (by exact szf108)) ?_
         clear hs; rintro _ w hs
         refine Qa ?_
         refine WL.next ?_
         refine WC.ret ?_
         refine At.thenret ?_
         refine fin2c rfl agg108 Q0 Q0 hs Q1 Q0 ?_
         refine Ret.mk hs ?_
         rw [hpl9] at h5
         have hb9 : policyIs s = false := policyIs_bad h1 h5
         exact ⟨⟨false, ⟨[], none, 0⟩, ⟨[], none, 0⟩, ⟨[], none, 0⟩, []⟩, by rw [hb9]; rfl, (policyOf_no (.inr hb9)).symm, ⟨⟨[], PPolicy.zown _, .nil, fun b h => by cases h⟩⟩⟩
        ·
         replace h5 := not_eq_false h5
         replace h5 := of_decide_eq_true h5
         refine WC.skipn ?_
         refine WC.seq ?_
         refine WL.p Q0 (Yl.loadAB agg108 Q0 hs Q1 Q0 Q0) ?_
         refine WL.s (Yr.storeB hs Q0 Q0 Q0 Q5 Q3 Q0 (by exact szf108)) ?_
         clear hs; rintro _ w hs
         refine Qa ?_
         refine WL.next ?_
         refine WC.ret ?_
         refine fin2c rfl agg108 Q0 Q0 hs Q1 Q0 ?_
         refine Ret.mk hs ?_
         rw [hpl9] at h5
         have hq9 : x2.l = splitC 59 s := hx2
         have h49 : 3 ≤ (splitC 59 s).length := by rw [← hq9]; omega
         have hb9 : policyIs s = true := policyIs_good h5 h49
         obtain ⟨G90, hs⟩ := Sat.cutow (lo := 1) (hi := x3.l.length) (hs.sel (D := [ow x3 F3]) Q2) (by rw [hx3]; exact List.length_pos_iff.2 (splitC_ne _ _)) (Nat.le_refl _)
         obtain ⟨G91, hs⟩ := Sat.cutow (lo := 1) (hi := x4.l.length) (hs.sel (D := [ow x4 F4]) Q2) (by rw [hx4]; exact List.length_pos_iff.2 (splitC_ne _ _)) (Nat.le_refl _)
         obtain ⟨G92, hs⟩ := Sat.cutow (lo := 1) (hi := x5.l.length) (hs.sel (D := [ow x5 F5]) Q2) (by rw [hx5]; exact List.length_pos_iff.2 (splitC_ne _ _)) (Nat.le_refl _)
         refine ⟨(⟨true, (x3.cut 1 x3.l.length), (x4.cut 1 x4.l.length), (x5.cut 1 x5.l.length), ([] : Str)⟩ : PPolicy), by rw [hb9]; rfl, hpl9.trans (policyOf_good h1 hb9).symm, ?_⟩
         exact (PPolicy.join _ (hs.only (D := [ow (x3.cut 1 x3.l.length) G90, ow (x4.cut 1 x4.l.length) G91, ow (x5.cut 1 x5.l.length) G92]) Q2) trivial (by show WfS _; unfold WfS; first | (simp only [List.length_take, List.length_drop]; omega) | simp)).fresh List.mem_cons_self
      ·
       replace h3 := of_decide_eq_false h3
       refine WL.skip (d := 34) Q0 Q0 Q0 Q0 ?_
       refine WL.skip (d := 34) Q0 Q0 Q0 Q0 ?_
       refine WL.skip (d := 34) Q0 Q0 Q0 Q0 ?_
       refine WL.skip (d := 34) Q0 Q0 Q0 Q0 ?_
       refine WL.skip (d := 34) Q0 Q0 Q0 Q0 ?_
       refine WL.p Q0 (Yl.pickF Q0 Q0) ?_
       refine WL.next ?_
       refine WC.condF Q0 ?_
       refine WC.skipn ?_
       refine WC.seq' ?_
       refine WC.seq ?_
       refine WL.p Q0 (Yl.loadAB agg108 Q0 hs Q1 Q0 Q0) ?_
       have hpl9 : PPolicy.lg (⟨true, (x3.cut 1 x3.l.length), (x4.cut 1 x4.l.length), (x5.cut 1 x5.l.length), ([] : Str)⟩ : PPolicy) = polS s := by
        have e2 : x2.l = splitC 59 s := hx2
        have g0 : x3.l = splitC 32 ((splitC 59 s).getD 0 []) := by rw [← e2]; exact hx3
        have g1 : x4.l = splitC 32 ((splitC 59 s).getD 1 []) := by rw [← e2]; exact hx4
        have g2 : x5.l = splitC 32 ((splitC 59 s).getD 2 []) := by rw [← e2]; exact hx5
        have c0 : (x3.cut 1 x3.l.length).l = (splitC 32 ((splitC 59 s).getD 0 [])).tail := by rw [Sl.cut_full, g0, List.drop_one]
        have c1 : (x4.cut 1 x4.l.length).l = (splitC 32 ((splitC 59 s).getD 1 [])).tail := by rw [Sl.cut_full, g1, List.drop_one]
        have c2 : (x5.cut 1 x5.l.length).l = (splitC 32 ((splitC 59 s).getD 2 [])).tail := by rw [Sl.cut_full, g2, List.drop_one]
        simp only [PPolicy.lg, polS, polOf, c0, c1, c2, TPolicy.mk.injEq, true_and]
        rw [← e2]
        first
         | (rw [if_neg (show ¬ 3 < x2.l.length from fun h => by omega)]; done)
         | (rw [if_pos (show 3 < x2.l.length from Int.ofNat_lt.1 Q7)]; done)
         | (rw [if_pos (show 3 < x2.l.length from Int.ofNat_lt.1 Q7)]
            simp only [nonceS, nonceI]
            first
              | (rfl; done)
              | (rw [if_neg Q7]; done)
              | (rw [if_pos Q7, List.take_of_length_le (by simp)]; done)
              | (rw [if_pos Q7]; done))
       refine WL.callp hs Q0 (Yc.func Q0 fn230) (c_spec_FormatPolicy (⟨true, (x3.cut 1 x3.l.length), (x4.cut 1 x4.l.length), (x5.cut 1 x5.l.length), ([] : Str)⟩ : PPolicy) _ ⟨trivial, (Sl.Ok.cut (hs.okow (x := x3) (F := F3) Q1) (by rw [hx3]; exact List.length_pos_iff.2 (splitC_ne _ _)) (by exact Nat.le_refl _)), (Sl.Ok.cut (hs.okow (x := x4) (F := F4) Q1) (by rw [hx4]; exact List.length_pos_iff.2 (splitC_ne _ _)) (by exact Nat.le_refl _)), (Sl.Ok.cut (hs.okow (x := x5) (F := F5) Q1) (by rw [hx5]; exact List.length_pos_iff.2 (splitC_ne _ _)) (by exact Nat.le_refl _)), (show WfS [] from Nat.zero_le _)⟩ (by rw [hpl9]; have := polS_size (s := s) (by rw [← show x2.l = splitC 59 s from hx2]; omega); omega)) ?_
       clear hs; intro w hs
       refine Qm ?_
       refine WL.p Q0 (Yl.nes Q0 Q0) ?_
       refine WL.next ?_
       refine WC.condS Q0 (fun h4 => ?_) (fun h4 => ?_)
       ·
        replace h4 := not_eq_true h4
        replace h4 := of_decide_eq_false h4
        refine WC.seq ?_
        refine WL.p Q0 (Yl.build bt108 Q0 Q4) ?_
        refine WL.s (Yr.storeB hs Q0 Q0 Q0 Q5 Q3 Q0 (by exact szf108)) ?_
        clear hs; rintro _ w hs
        refine Qa ?_
        refine WL.next ?_
        refine WC.ret ?_
        refine At.thenret ?_
        refine fin2c rfl agg108 Q0 Q0 hs Q1 Q0 ?_
        refine Ret.mk hs ?_
        rw [hpl9] at h4
        have hb9 : policyIs s = false := policyIs_bad h1 h4
        exact ⟨⟨false, ⟨[], none, 0⟩, ⟨[], none, 0⟩, ⟨[], none, 0⟩, []⟩, by rw [hb9]; rfl, (policyOf_no (.inr hb9)).symm, ⟨⟨[], PPolicy.zown _, .nil, fun b h => by cases h⟩⟩⟩
       ·
        replace h4 := not_eq_false h4
        replace h4 := of_decide_eq_true h4
        refine WC.skipn ?_
        refine WC.seq ?_
        refine WL.p Q0 (Yl.loadAB agg108 Q0 hs Q1 Q0 Q0) ?_
        refine WL.s (Yr.storeB hs Q0 Q0 Q0 Q5 Q3 Q0 (by exact szf108)) ?_
        clear hs; rintro _ w hs
        refine Qa ?_
        refine WL.next ?_
        refine WC.ret ?_
        refine fin2c rfl agg108 Q0 Q0 hs Q1 Q0 ?_
        refine Ret.mk hs ?_
        rw [hpl9] at h4
        have hq9 : x2.l = splitC 59 s := hx2
        have h49 : 3 ≤ (splitC 59 s).length := by rw [← hq9]; omega
        have hb9 : policyIs s = true := policyIs_good h4 h49
        obtain ⟨G90, hs⟩ := Sat.cutow (lo := 1) (hi := x3.l.length) (hs.sel (D := [ow x3 F3]) Q2) (by rw [hx3]; exact List.length_pos_iff.2 (splitC_ne _ _)) (Nat.le_refl _)
        obtain ⟨G91, hs⟩ := Sat.cutow (lo := 1) (hi := x4.l.length) (hs.sel (D := [ow x4 F4]) Q2) (by rw [hx4]; exact List.length_pos_iff.2 (splitC_ne _ _)) (Nat.le_refl _)
        obtain ⟨G92, hs⟩ := Sat.cutow (lo := 1) (hi := x5.l.length) (hs.sel (D := [ow x5 F5]) Q2) (by rw [hx5]; exact List.length_pos_iff.2 (splitC_ne _ _)) (Nat.le_refl _)
        refine ⟨(⟨true, (x3.cut 1 x3.l.length), (x4.cut 1 x4.l.length), (x5.cut 1 x5.l.length), ([] : Str)⟩ : PPolicy), by rw [hb9]; rfl, hpl9.trans (policyOf_good h1 hb9).symm, ?_⟩
        exact (PPolicy.join _ (hs.only (D := [ow (x3.cut 1 x3.l.length) G90, ow (x4.cut 1 x4.l.length) G91, ow (x5.cut 1 x5.l.length) G92]) Q2) trivial (by show WfS _; unfold WfS; first | (simp only [List.length_take, List.length_drop]; omega) | simp)).fresh List.mem_cons_self
     ·
      refine WI.r (i := 16) Q0 Q0 (Yr.alloc hs zt108) (by rintro _ w ⟨b7, rfl, hb, hs⟩; exact hs.only Q2) ?_
      clear hs; rintro _ w ⟨b7, rfl, hb, hs⟩; clear hb
      refine WA.call2 (i := 13) hs (fun _ hs => hs.only Q2) Q6 Q0 Q0 (Yc.func Q0 fn109) (c_spec_l5Split _ 32 _ (by first | (have := getD_len (s := s) (i := 0); rw [← show x2.l = splitC 59 s from hx2] at this; omega) | (have := getD_len (s := s) (i := 1); rw [← show x2.l = splitC 59 s from hx2] at this; omega) | (have := getD_len (s := s) (i := 2); rw [← show x2.l = splitC 59 s from hx2] at this; omega) | (have := getD_len (s := s) (i := 3); rw [← show x2.l = splitC 59 s from hx2] at this; omega))) ?_
      have hs0 := hs; clear hs; intro v w hb hR hs; clear hs
      obtain ⟨x8, rfl, hx8, hf8⟩ := hR
      obtain ⟨F8, hs⟩ := hf8.sat hs0 hb; clear hs0 hf8
      have hle8 := Sl.Ok.le (hs.okow (x := x8) (F := F8) Q1)
      refine WA.r (i := 14) Q6 Q0 Q0 (Yl.yr (Yl.slice_sl (s := x8) (l := 1) (h := x8.l.length) slt34 Q0 hle8 (by exact ⟨_, by rfl⟩) (by exact rfl) (by rw [hx8]; exact List.length_pos_iff.2 (splitC_ne _ _)) (by exact Nat.le_refl _))) (by rintro _ _ ⟨rfl, rfl⟩; exact hs.only Q2) ?_
      rintro _ _ ⟨rfl, rfl⟩
      refine WA.p (i := 15) Q0 Q6 Q6 Q6 Q0 (hs.only Q2) (fun w hs => Yl.build bt108 Q0 Q4) ?_
      refine WA.s (i := 17) Q6 Q0 (Yr.storeB hs Q0 Q0 Q0 Q5 Q3 Q0 (by exact szf108)) (by rintro _ w hs; exact hs.only Q2) ?_
      clear hs; rintro _ w hs
      refine WA.donen Q6 ?_
      refine WC.seq' ?_
      refine WC.seq ?_
      refine Qm ?_
      refine WL.p Q0 (Yl.len_sl slu34 Q0) ?_
      refine WL.p Q0 (Yl.gtr Q0 Q0) ?_
      refine Qm ?_
      refine WL.split (d := 34) Q0 (fun h3 => ?_) (fun h3 => ?_)
      ·
       replace h3 := of_decide_eq_true h3
       refine WL.run (d := 34) Q0 Q0 ?_
       refine Qm ?_
       refine WL.run (d := 34) Q0 Q0 ?_
       refine WL.p Q0 (Yl.indexAddr (k := 3) slt34 Q0 Q0 (hs.okow (x := x2) (F := F2) Q1) Q0 ((getD_some (i := 3) (z := ([] : Str)) Q7))) ?_
       refine WL.run (d := 34) Q0 Q0 ?_
       refine WL.p Q0 (Yl.loadC0 sca9 Q0 (Sl.Ok.at_ (hs.okow (x := x2) (F := F2) Q1) ((getD_some (i := 3) (z := ([] : Str)) Q7))).2 Q0) ?_
       refine WL.run (d := 34) Q0 Q0 ?_
       refine WL.p Q0 (Yl.len_str str9 Q0) ?_
       refine WL.run (d := 34) Q0 Q0 ?_
       refine WL.p Q0 (Yl.gtr Q0 Q0) ?_
       refine WL.p Q0 (Yl.pickT Q0 Q0) ?_
       refine WL.next ?_
       refine WC.condS Q0 (fun h4 => ?_) (fun h4 => ?_)
       ·
        replace h4 := of_decide_eq_true h4
        refine WC.region ?_
        refine Qm ?_
        refine WL.p Q0 (Yl.indexAddr (k := 3) slt34 Q0 Q0 (hs.okow (x := x2) (F := F2) Q1) Q0 ((getD_some (i := 3) (z := ([] : Str)) Q7))) ?_
        refine WL.p Q0 (Yl.loadC0 sca9 Q0 (Sl.Ok.at_ (hs.okow (x := x2) (F := F2) Q1) ((getD_some (i := 3) (z := ([] : Str)) Q7))).2 Q0) ?_
        refine WL.p Q0 (Yl.slice_str (l := 6) str9 Q0 (by exact ⟨_, by rfl⟩) (by exact rfl) Q7 Q7) ?_
        refine WL.p Q0 (Yl.fieldAddr fa108_4 Q0) ?_
        refine WL.s (Yr.storeB hs Q0 Q0 Q0 Q5 Q3 Q0 (by exact szf9)) ?_
        clear hs; rintro _ w hs
        refine WL.nil ?_
        refine At.then_ ?_
        refine WC.seq' ?_
        refine WC.seq ?_
        refine WL.p Q0 (Yl.loadAB agg108 Q0 hs Q1 Q0 Q0) ?_
        have hpl9 : PPolicy.lg (⟨true, (x3.cut 1 x3.l.length), (x4.cut 1 x4.l.length), (x8.cut 1 x8.l.length), (((x2.l.getD 3 []).drop 6).take ((x2.l.getD 3 []).length - 6))⟩ : PPolicy) = polS s := by
         have e2 : x2.l = splitC 59 s := hx2
         have g0 : x3.l = splitC 32 ((splitC 59 s).getD 0 []) := by rw [← e2]; exact hx3
         have g1 : x4.l = splitC 32 ((splitC 59 s).getD 1 []) := by rw [← e2]; exact hx4
         have g2 : x8.l = splitC 32 ((splitC 59 s).getD 2 []) := by rw [← e2]; exact hx8
         have c0 : (x3.cut 1 x3.l.length).l = (splitC 32 ((splitC 59 s).getD 0 [])).tail := by rw [Sl.cut_full, g0, List.drop_one]
         have c1 : (x4.cut 1 x4.l.length).l = (splitC 32 ((splitC 59 s).getD 1 [])).tail := by rw [Sl.cut_full, g1, List.drop_one]
         have c2 : (x8.cut 1 x8.l.length).l = (splitC 32 ((splitC 59 s).getD 2 [])).tail := by rw [Sl.cut_full, g2, List.drop_one]
         simp only [PPolicy.lg, polS, polOf, c0, c1, c2, TPolicy.mk.injEq, true_and]
         rw [← e2]
         first
          | (rw [if_neg (show ¬ 3 < x2.l.length from fun h => by omega)]; done)
          | (rw [if_pos (show 3 < x2.l.length from Int.ofNat_lt.1 Q7)]; done)
          | (rw [if_pos (show 3 < x2.l.length from Int.ofNat_lt.1 Q7)]
             simp only [nonceS, nonceI]
             first
               | (rfl; done)
               | (rw [if_neg Q7]; done)
               | (rw [if_pos Q7, List.take_of_length_le (by simp)]; done)
               | (rw [if_pos Q7]; done))
        refine WL.callp hs Q0 (Yc.func Q0 fn230) (c_spec_FormatPolicy (⟨true, (x3.cut 1 x3.l.length), (x4.cut 1 x4.l.length), (x8.cut 1 x8.l.length), (((x2.l.getD 3 []).drop 6).take ((x2.l.getD 3 []).length - 6))⟩ : PPolicy) _ ⟨trivial, (Sl.Ok.cut (hs.okow (x := x3) (F := F3) Q1) (by rw [hx3]; exact List.length_pos_iff.2 (splitC_ne _ _)) (by exact Nat.le_refl _)), (Sl.Ok.cut (hs.okow (x := x4) (F := F4) Q1) (by rw [hx4]; exact List.length_pos_iff.2 (splitC_ne _ _)) (by exact Nat.le_refl _)), (Sl.Ok.cut (hs.okow (x := x8) (F := F8) Q1) (by rw [hx8]; exact List.length_pos_iff.2 (splitC_ne _ _)) (by exact Nat.le_refl _)), (by show WfS _; unfold WfS; simp only [List.length_take, List.length_drop]; omega)⟩ (by rw [hpl9]; have := polS_size (s := s) (by rw [← show x2.l = splitC 59 s from hx2]; omega); omega)) ?_
        clear hs; intro w hs
        refine Qm ?_
        refine WL.p Q0 (Yl.nes Q0 Q0) ?_
        refine WL.next ?_
        refine WC.condS Q0 (fun h5 => ?_) (fun h5 => ?_)
        ·
         replace h5 := not_eq_true h5
         replace h5 := of_decide_eq_false h5
         refine WC.seq ?_
         refine WL.p Q0 (Yl.build bt108 Q0 Q4) ?_
         refine WL.s (Yr.storeB hs Q0 Q0 Q0 Q5 Q3 Q0 (by exact szf108)) ?_
         clear hs; rintro _ w hs
         refine Qa ?_
         refine WL.next ?_
         refine WC.ret ?_
         refine At.thenret ?_
         refine fin2c rfl agg108 Q0 Q0 hs Q1 Q0 ?_
         refine Ret.mk hs ?_
         rw [hpl9] at h5
         have hb9 : policyIs s = false := policyIs_bad h1 h5
         exact ⟨⟨false, ⟨[], none, 0⟩, ⟨[], none, 0⟩, ⟨[], none, 0⟩, []⟩, by rw [hb9]; rfl, (policyOf_no (.inr hb9)).symm, ⟨⟨[], PPolicy.zown _, .nil, fun b h => by cases h⟩⟩⟩
        ·
         replace h5 := not_eq_false h5
         replace h5 := of_decide_eq_true h5
         refine WC.skipn ?_
         refine WC.seq ?_
         refine WL.p Q0 (Yl.loadAB agg108 Q0 hs Q1 Q0 Q0) ?_
         refine WL.s (Yr.storeB hs Q0 Q0 Q0 Q5 Q3 Q0 (by exact szf108)) ?_
         clear hs; rintro _ w hs
         refine Qa ?_
         refine WL.next ?_
         refine WC.ret ?_
         refine fin2c rfl agg108 Q0 Q0 hs Q1 Q0 ?_
         refine Ret.mk hs ?_
         rw [hpl9] at h5
         have hq9 : x2.l = splitC 59 s := hx2
         have h49 : 3 ≤ (splitC 59 s).length := by rw [← hq9]; omega
         have hb9 : policyIs s = true := policyIs_good h5 h49
         obtain ⟨G90, hs⟩ := Sat.cutow (lo := 1) (hi := x3.l.length) (hs.sel (D := [ow x3 F3]) Q2) (by rw [hx3]; exact List.length_pos_iff.2 (splitC_ne _ _)) (Nat.le_refl _)
         obtain ⟨G91, hs⟩ := Sat.cutow (lo := 1) (hi := x4.l.length) (hs.sel (D := [ow x4 F4]) Q2) (by rw [hx4]; exact List.length_pos_iff.2 (splitC_ne _ _)) (Nat.le_refl _)
         obtain ⟨G92, hs⟩ := Sat.cutow (lo := 1) (hi := x8.l.length) (hs.sel (D := [ow x8 F8]) Q2) (by rw [hx8]; exact List.length_pos_iff.2 (splitC_ne _ _)) (Nat.le_refl _)
         refine ⟨(⟨true, (x3.cut 1 x3.l.length), (x4.cut 1 x4.l.length), (x8.cut 1 x8.l.length), (((x2.l.getD 3 []).drop 6).take ((x2.l.getD 3 []).length - 6))⟩ : PPolicy), by rw [hb9]; rfl, hpl9.trans (policyOf_good h1 hb9).symm, ?_⟩
         exact (PPolicy.join _ (hs.only (D := [ow (x3.cut 1 x3.l.length) G90, ow (x4.cut 1 x4.l.length) G91, ow (x8.cut 1 x8.l.length) G92]) Q2) trivial (by show WfS _; unfold WfS; first | (simp only [List.length_take, List.length_drop]; omega) | simp)).fresh List.mem_cons_self
       ·
        replace h4 := of_decide_eq_false h4
        refine WC.skipn ?_
        refine WC.seq' ?_
        refine WC.seq ?_
        refine WL.p Q0 (Yl.loadAB agg108 Q0 hs Q1 Q0 Q0) ?_
        have hpl9 : PPolicy.lg (⟨true, (x3.cut 1 x3.l.length), (x4.cut 1 x4.l.length), (x8.cut 1 x8.l.length), ([] : Str)⟩ : PPolicy) = polS s := by
         have e2 : x2.l = splitC 59 s := hx2
         have g0 : x3.l = splitC 32 ((splitC 59 s).getD 0 []) := by rw [← e2]; exact hx3
         have g1 : x4.l = splitC 32 ((splitC 59 s).getD 1 []) := by rw [← e2]; exact hx4
         have g2 : x8.l = splitC 32 ((splitC 59 s).getD 2 []) := by rw [← e2]; exact hx8
         have c0 : (x3.cut 1 x3.l.length).l = (splitC 32 ((splitC 59 s).getD 0 [])).tail := by rw [Sl.cut_full, g0, List.drop_one]
         have c1 : (x4.cut 1 x4.l.length).l = (splitC 32 ((splitC 59 s).getD 1 [])).tail := by rw [Sl.cut_full, g1, List.drop_one]
         have c2 : (x8.cut 1 x8.l.length).l = (splitC 32 ((splitC 59 s).getD 2 [])).tail := by rw [Sl.cut_full, g2, List.drop_one]
         simp only [PPolicy.lg, polS, polOf, c0, c1, c2, TPolicy.mk.injEq, true_and]
         rw [← e2]
         first
          | (rw [if_neg (show ¬ 3 < x2.l.length from fun h => by omega)]; done)
          | (rw [if_pos (show 3 < x2.l.length from Int.ofNat_lt.1 Q7)]; done)
          | (rw [if_pos (show 3 < x2.l.length from Int.ofNat_lt.1 Q7)]
             simp only [nonceS, nonceI]
             first
               | (rfl; done)
               | (rw [if_neg Q7]; done)
               | (rw [if_pos Q7, List.take_of_length_le (by simp)]; done)
               | (rw [if_pos Q7]; done))
        refine WL.callp hs Q0 (Yc.func Q0 fn230) (c_spec_FormatPolicy (⟨true, (x3.cut 1 x3.l.length), (x4.cut 1 x4.l.length), (x8.cut 1 x8.l.length), ([] : Str)⟩ : PPolicy) _ ⟨trivial, (Sl.Ok.cut (hs.okow (x := x3) (F := F3) Q1) (by rw [hx3]; exact List.length_pos_iff.2 (splitC_ne _ _)) (by exact Nat.le_refl _)), (Sl.Ok.cut (hs.okow (x := x4) (F := F4) Q1) (by rw [hx4]; exact List.length_pos_iff.2 (splitC_ne _ _)) (by exact Nat.le_refl _)), (Sl.Ok.cut (hs.okow (x := x8) (F := F8) Q1) (by rw [hx8]; exact List.length_pos_iff.2 (splitC_ne _ _)) (by exact Nat.le_refl _)), (show WfS [] from Nat.zero_le _)⟩ (by rw [hpl9]; have := polS_size (s := s) (by rw [← show x2.l = splitC 59 s from hx2]; omega); omega)) ?_
        clear hs; intro w hs
        refine Qm ?_
        refine WL.p Q0 (Yl.nes Q0 Q0) ?_
        refine WL.next ?_
        refine WC.condS Q0 (fun h5 => ?_) (fun h5 => ?_)
        ·
         replace h5 := not_eq_true h5
         replace h5 := of_decide_eq_false h5
         refine WC.seq ?_
         refine WL.p Q0 (Yl.build bt108 Q0 Q4) ?_
         refine WL.s (Yr.storeB hs Q0 Q0 Q0 Q5 Q3 Q0 (by exact szf108)) ?_
         clear hs; rintro _ w hs
         refine Qa ?_
         refine WL.next ?_
         refine WC.ret ?_
         refine At.thenret ?_
         refine fin2c rfl agg108 Q0 Q0 hs Q1 Q0 ?_
         refine Ret.mk hs ?_
         rw [hpl9] at h5
         have hb9 : policyIs s = false := policyIs_bad h1 h5
         exact ⟨⟨false, ⟨[], none, 0⟩, ⟨[], none, 0⟩, ⟨[], none, 0⟩, []⟩, by rw [hb9]; rfl, (policyOf_no (.inr hb9)).symm, ⟨⟨[], PPolicy.zown _, .nil, fun b h => by cases h⟩⟩⟩
        ·
         replace h5 := not_eq_false h5
         replace h5 := of_decide_eq_true h5
         refine WC.skipn ?_
         refine WC.seq ?_
         refine WL.p Q0 (Yl.loadAB agg108 Q0 hs Q1 Q0 Q0) ?_
         refine WL.s (Yr.storeB hs Q0 Q0 Q0 Q5 Q3 Q0 (by exact szf108)) ?_
         clear hs; rintro _ w hs
         refine Qa ?_
         refine WL.next ?_
         refine WC.ret ?_
         refine fin2c rfl agg108 Q0 Q0 hs Q1 Q0 ?_
         refine Ret.mk hs ?_
         rw [hpl9] at h5
         have hq9 : x2.l = splitC 59 s := hx2
         have h49 : 3 ≤ (splitC 59 s).length := by rw [← hq9]; omega
         have hb9 : policyIs s = true := policyIs_good h5 h49
         obtain ⟨G90, hs⟩ := Sat.cutow (lo := 1) (hi := x3.l.length) (hs.sel (D := [ow x3 F3]) Q2) (by rw [hx3]; exact List.length_pos_iff.2 (splitC_ne _ _)) (Nat.le_refl _)
         obtain ⟨G91, hs⟩ := Sat.cutow (lo := 1) (hi := x4.l.length) (hs.sel (D := [ow x4 F4]) Q2) (by rw [hx4]; exact List.length_pos_iff.2 (splitC_ne _ _)) (Nat.le_refl _)
         obtain ⟨G92, hs⟩ := Sat.cutow (lo := 1) (hi := x8.l.length) (hs.sel (D := [ow x8 F8]) Q2) (by rw [hx8]; exact List.length_pos_iff.2 (splitC_ne _ _)) (Nat.le_refl _)
         refine ⟨(⟨true, (x3.cut 1 x3.l.length), (x4.cut 1 x4.l.length), (x8.cut 1 x8.l.length), ([] : Str)⟩ : PPolicy), by rw [hb9]; rfl, hpl9.trans (policyOf_good h1 hb9).symm, ?_⟩
         exact (PPolicy.join _ (hs.only (D := [ow (x3.cut 1 x3.l.length) G90, ow (x4.cut 1 x4.l.length) G91, ow (x8.cut 1 x8.l.length) G92]) Q2) trivial (by show WfS _; unfold WfS; first | (simp only [List.length_take, List.length_drop]; omega) | simp)).fresh List.mem_cons_self
      ·
       replace h3 := of_decide_eq_false h3
       refine WL.skip (d := 34) Q0 Q0 Q0 Q0 ?_
       refine WL.skip (d := 34) Q0 Q0 Q0 Q0 ?_
       refine WL.skip (d := 34) Q0 Q0 Q0 Q0 ?_
       refine WL.skip (d := 34) Q0 Q0 Q0 Q0 ?_
       refine WL.skip (d := 34) Q0 Q0 Q0 Q0 ?_
       refine WL.p Q0 (Yl.pickF Q0 Q0) ?_
       refine WL.next ?_
       refine WC.condF Q0 ?_
       refine WC.skipn ?_
       refine WC.seq' ?_
       refine WC.seq ?_
       refine WL.p Q0 (Yl.loadAB agg108 Q0 hs Q1 Q0 Q0) ?_
       have hpl9 : PPolicy.lg (⟨true, (x3.cut 1 x3.l.length), (x4.cut 1 x4.l.length), (x8.cut 1 x8.l.length), ([] : Str)⟩ : PPolicy) = polS s := by
        have e2 : x2.l = splitC 59 s := hx2
        have g0 : x3.l = splitC 32 ((splitC 59 s).getD 0 []) := by rw [← e2]; exact hx3
        have g1 : x4.l = splitC 32 ((splitC 59 s).getD 1 []) := by rw [← e2]; exact hx4
        have g2 : x8.l = splitC 32 ((splitC 59 s).getD 2 []) := by rw [← e2]; exact hx8
        have c0 : (x3.cut 1 x3.l.length).l = (splitC 32 ((splitC 59 s).getD 0 [])).tail := by rw [Sl.cut_full, g0, List.drop_one]
        have c1 : (x4.cut 1 x4.l.length).l = (splitC 32 ((splitC 59 s).getD 1 [])).tail := by rw [Sl.cut_full, g1, List.drop_one]
        have c2 : (x8.cut 1 x8.l.length).l = (splitC 32 ((splitC 59 s).getD 2 [])).tail := by rw [Sl.cut_full, g2, List.drop_one]
        simp only [PPolicy.lg, polS, polOf, c0, c1, c2, TPolicy.mk.injEq, true_and]
        rw [← e2]
        first
         | (rw [if_neg (show ¬ 3 < x2.l.length from fun h => by omega)]; done)
         | (rw [if_pos (show 3 < x2.l.length from Int.ofNat_lt.1 Q7)]; done)
         | (rw [if_pos (show 3 < x2.l.length from Int.ofNat_lt.1 Q7)]
            simp only [nonceS, nonceI]
            first
              | (rfl; done)
              | (rw [if_neg Q7]; done)
              | (rw [if_pos Q7, List.take_of_length_le (by simp)]; done)
              | (rw [if_pos Q7]; done))
       refine WL.callp hs Q0 (Yc.func Q0 fn230) (c_spec_FormatPolicy (⟨true, (x3.cut 1 x3.l.length), (x4.cut 1 x4.l.length), (x8.cut 1 x8.l.length), ([] : Str)⟩ : PPolicy) _ ⟨trivial, (Sl.Ok.cut (hs.okow (x := x3) (F := F3) Q1) (by rw [hx3]; exact List.length_pos_iff.2 (splitC_ne _ _)) (by exact Nat.le_refl _)), (Sl.Ok.cut (hs.okow (x := x4) (F := F4) Q1) (by rw [hx4]; exact List.length_pos_iff.2 (splitC_ne _ _)) (by exact Nat.le_refl _)), (Sl.Ok.cut (hs.okow (x := x8) (F := F8) Q1) (by rw [hx8]; exact List.length_pos_iff.2 (splitC_ne _ _)) (by exact Nat.le_refl _)), (show WfS [] from Nat.zero_le _)⟩ (by rw [hpl9]; have := polS_size (s := s) (by rw [← show x2.l = splitC 59 s from hx2]; omega); omega)) ?_
       clear hs; intro w hs
       refine Qm ?_
       refine WL.p Q0 (Yl.nes Q0 Q0) ?_
       refine WL.next ?_
       refine WC.condS Q0 (fun h4 => ?_) (fun h4 => ?_)
       ·
        replace h4 := not_eq_true h4
        replace h4 := of_decide_eq_false h4
        refine WC.seq ?_
        refine WL.p Q0 (Yl.build bt108 Q0 Q4) ?_
        refine WL.s (Yr.storeB hs Q0 Q0 Q0 Q5 Q3 Q0 (by exact szf108)) ?_
        clear hs; rintro _ w hs
        refine Qa ?_
        refine WL.next ?_
        refine WC.ret ?_
        refine At.thenret ?_
        refine fin2c rfl agg108 Q0 Q0 hs Q1 Q0 ?_
        refine Ret.mk hs ?_
        rw [hpl9] at h4
        have hb9 : policyIs s = false := policyIs_bad h1 h4
        exact ⟨⟨false, ⟨[], none, 0⟩, ⟨[], none, 0⟩, ⟨[], none, 0⟩, []⟩, by rw [hb9]; rfl, (policyOf_no (.inr hb9)).symm, ⟨⟨[], PPolicy.zown _, .nil, fun b h => by cases h⟩⟩⟩
       ·
        replace h4 := not_eq_false h4
        replace h4 := of_decide_eq_true h4
        refine WC.skipn ?_
        refine WC.seq ?_
        refine WL.p Q0 (Yl.loadAB agg108 Q0 hs Q1 Q0 Q0) ?_
        refine WL.s (Yr.storeB hs Q0 Q0 Q0 Q5 Q3 Q0 (by exact szf108)) ?_
        clear hs; rintro _ w hs
        refine Qa ?_
        refine WL.next ?_
        refine WC.ret ?_
        refine fin2c rfl agg108 Q0 Q0 hs Q1 Q0 ?_
        refine Ret.mk hs ?_
        rw [hpl9] at h4
        have hq9 : x2.l = splitC 59 s := hx2
        have h49 : 3 ≤ (splitC 59 s).length := by rw [← hq9]; omega
        have hb9 : policyIs s = true := policyIs_good h4 h49
        obtain ⟨G90, hs⟩ := Sat.cutow (lo := 1) (hi := x3.l.length) (hs.sel (D := [ow x3 F3]) Q2) (by rw [hx3]; exact List.length_pos_iff.2 (splitC_ne _ _)) (Nat.le_refl _)
        obtain ⟨G91, hs⟩ := Sat.cutow (lo := 1) (hi := x4.l.length) (hs.sel (D := [ow x4 F4]) Q2) (by rw [hx4]; exact List.length_pos_iff.2 (splitC_ne _ _)) (Nat.le_refl _)
        obtain ⟨G92, hs⟩ := Sat.cutow (lo := 1) (hi := x8.l.length) (hs.sel (D := [ow x8 F8]) Q2) (by rw [hx8]; exact List.length_pos_iff.2 (splitC_ne _ _)) (Nat.le_refl _)
        refine ⟨(⟨true, (x3.cut 1 x3.l.length), (x4.cut 1 x4.l.length), (x8.cut 1 x8.l.length), ([] : Str)⟩ : PPolicy), by rw [hb9]; rfl, hpl9.trans (policyOf_good h1 hb9).symm, ?_⟩
        exact (PPolicy.join _ (hs.only (D := [ow (x3.cut 1 x3.l.length) G90, ow (x4.cut 1 x4.l.length) G91, ow (x8.cut 1 x8.l.length) G92]) Q2) trivial (by show WfS _; unfold WfS; first | (simp only [List.length_take, List.length_drop]; omega) | simp)).fresh List.mem_cons_self
    ·
     refine WI.r (i := 16) Q0 Q0 (Yr.alloc hs zt108) (by rintro _ w ⟨b9, rfl, hb, hs⟩; exact hs.only Q2) ?_
     clear hs; rintro _ w ⟨b9, rfl, hb, hs⟩; clear hb
     refine WA.call2 (i := 8) hs (fun _ hs => hs.only Q2) Q6 Q0 Q0 (Yc.func Q0 fn109) (c_spec_l5Split _ 32 _ (by first | (have := getD_len (s := s) (i := 0); rw [← show x2.l = splitC 59 s from hx2] at this; omega) | (have := getD_len (s := s) (i := 1); rw [← show x2.l = splitC 59 s from hx2] at this; omega) | (have := getD_len (s := s) (i := 2); rw [← show x2.l = splitC 59 s from hx2] at this; omega) | (have := getD_len (s := s) (i := 3); rw [← show x2.l = splitC 59 s from hx2] at this; omega))) ?_
     have hs0 := hs; clear hs; intro v w hb hR hs; clear hs
     obtain ⟨x10, rfl, hx10, hf10⟩ := hR
     obtain ⟨F10, hs⟩ := hf10.sat hs0 hb; clear hs0 hf10
     have hle10 := Sl.Ok.le (hs.okow (x := x10) (F := F10) Q1)
     refine WA.p (i := 9) Q0 Q6 Q6 Q6 Q0 (hs.only Q2) (fun w hs => Yl.slice_sl (s := x10) (l := 1) (h := x10.l.length) slt34 Q0 hle10 (by exact ⟨_, by rfl⟩) (by exact rfl) (by rw [hx10]; exact List.length_pos_iff.2 (splitC_ne _ _)) (by exact Nat.le_refl _)) ?_
     refine WA.call2 (i := 13) hs (fun _ hs => hs.only Q2) Q6 Q0 Q0 (Yc.func Q0 fn109) (c_spec_l5Split _ 32 _ (by first | (have := getD_len (s := s) (i := 0); rw [← show x2.l = splitC 59 s from hx2] at this; omega) | (have := getD_len (s := s) (i := 1); rw [← show x2.l = splitC 59 s from hx2] at this; omega) | (have := getD_len (s := s) (i := 2); rw [← show x2.l = splitC 59 s from hx2] at this; omega) | (have := getD_len (s := s) (i := 3); rw [← show x2.l = splitC 59 s from hx2] at this; omega))) ?_
     have hs0 := hs; clear hs; intro v w hb hR hs; clear hs
     obtain ⟨x11, rfl, hx11, hf11⟩ := hR
     obtain ⟨F11, hs⟩ := hf11.sat hs0 hb; clear hs0 hf11
     have hle11 := Sl.Ok.le (hs.okow (x := x11) (F := F11) Q1)
     refine WA.r (i := 14) Q6 Q0 Q0 (Yl.yr (Yl.slice_sl (s := x11) (l := 1) (h := x11.l.length) slt34 Q0 hle11 (by exact ⟨_, by rfl⟩) (by exact rfl) (by rw [hx11]; exact List.length_pos_iff.2 (splitC_ne _ _)) (by exact Nat.le_refl _))) (by rintro _ _ ⟨rfl, rfl⟩; exact hs.only Q2) ?_
     rintro _ _ ⟨rfl, rfl⟩
     refine WA.p (i := 15) Q0 Q6 Q6 Q6 Q0 (hs.only Q2) (fun w hs => Yl.build bt108 Q0 Q4) ?_
     refine WA.s (i := 17) Q6 Q0 (Yr.storeB hs Q0 Q0 Q0 Q5 Q3 Q0 (by exact szf108)) (by rintro _ w hs; exact hs.only Q2) ?_
     clear hs; rintro _ w hs
     refine WA.donen Q6 ?_
     refine WC.seq' ?_
     refine WC.seq ?_
     refine Qm ?_
     refine WL.p Q0 (Yl.len_sl slu34 Q0) ?_
     refine WL.p Q0 (Yl.gtr Q0 Q0) ?_
     refine Qm ?_
     refine WL.split (d := 34) Q0 (fun h3 => ?_) (fun h3 => ?_)
     ·
      replace h3 := of_decide_eq_true h3
      refine WL.run (d := 34) Q0 Q0 ?_
      refine Qm ?_
      refine WL.run (d := 34) Q0 Q0 ?_
      refine WL.p Q0 (Yl.indexAddr (k := 3) slt34 Q0 Q0 (hs.okow (x := x2) (F := F2) Q1) Q0 ((getD_some (i := 3) (z := ([] : Str)) Q7))) ?_
      refine WL.run (d := 34) Q0 Q0 ?_
      refine WL.p Q0 (Yl.loadC0 sca9 Q0 (Sl.Ok.at_ (hs.okow (x := x2) (F := F2) Q1) ((getD_some (i := 3) (z := ([] : Str)) Q7))).2 Q0) ?_
      refine WL.run (d := 34) Q0 Q0 ?_
      refine WL.p Q0 (Yl.len_str str9 Q0) ?_
      refine WL.run (d := 34) Q0 Q0 ?_
      refine WL.p Q0 (Yl.gtr Q0 Q0) ?_
      refine WL.p Q0 (Yl.pickT Q0 Q0) ?_
      refine WL.next ?_
      refine WC.condS Q0 (fun h4 => ?_) (fun h4 => ?_)
      ·
       replace h4 := of_decide_eq_true h4
       refine WC.region ?_
       refine Qm ?_
       refine WL.p Q0 (Yl.indexAddr (k := 3) slt34 Q0 Q0 (hs.okow (x := x2) (F := F2) Q1) Q0 ((getD_some (i := 3) (z := ([] : Str)) Q7))) ?_
       refine WL.p Q0 (Yl.loadC0 sca9 Q0 (Sl.Ok.at_ (hs.okow (x := x2) (F := F2) Q1) ((getD_some (i := 3) (z := ([] : Str)) Q7))).2 Q0) ?_
       refine WL.p Q0 (Yl.slice_str (l := 6) str9 Q0 (by exact ⟨_, by rfl⟩) (by exact rfl) Q7 Q7) ?_
       refine WL.p Q0 (Yl.fieldAddr fa108_4 Q0) ?_
       refine WL.s (Yr.storeB hs Q0 Q0 Q0 Q5 Q3 Q0 (by exact szf9)) ?_
       clear hs; rintro _ w hs
       refine WL.nil ?_
       refine At.then_ ?_
       refine WC.seq' ?_
       refine WC.seq ?_
       refine WL.p Q0 (Yl.loadAB agg108 Q0 hs Q1 Q0 Q0) ?_
       have hpl9 : PPolicy.lg (⟨true, (x3.cut 1 x3.l.length), (x10.cut 1 x10.l.length), (x11.cut 1 x11.l.length), (((x2.l.getD 3 []).drop 6).take ((x2.l.getD 3 []).length - 6))⟩ : PPolicy) = polS s := by
        have e2 : x2.l = splitC 59 s := hx2
        have g0 : x3.l = splitC 32 ((splitC 59 s).getD 0 []) := by rw [← e2]; exact hx3
        have g1 : x10.l = splitC 32 ((splitC 59 s).getD 1 []) := by rw [← e2]; exact hx10
        have g2 : x11.l = splitC 32 ((splitC 59 s).getD 2 []) := by rw [← e2]; exact hx11
        have c0 : (x3.cut 1 x3.l.length).l = (splitC 32 ((splitC 59 s).getD 0 [])).tail := by rw [Sl.cut_full, g0, List.drop_one]
        have c1 : (x10.cut 1 x10.l.length).l = (splitC 32 ((splitC 59 s).getD 1 [])).tail := by rw [Sl.cut_full, g1, List.drop_one]
        have c2 : (x11.cut 1 x11.l.length).l = (splitC 32 ((splitC 59 s).getD 2 [])).tail := by rw [Sl.cut_full, g2, List.drop_one]
        simp only [PPolicy.lg, polS, polOf, c0, c1, c2, TPolicy.mk.injEq, true_and]
        rw [← e2]
        first
         | (rw [if_neg (show ¬ 3 < x2.l.length from fun h => by omega)]; done)
         | (rw [if_pos (show 3 < x2.l.length from Int.ofNat_lt.1 Q7)]; done)
         | (rw [if_pos (show 3 < x2.l.length from Int.ofNat_lt.1 Q7)]
            simp only [nonceS, nonceI]
            first
              | (rfl; done)
              | (rw [if_neg Q7]; done)
              | (rw [if_pos Q7, List.take_of_length_le (by simp)]; done)
              | (rw [if_pos Q7]; done))
       refine WL.callp hs Q0 (Yc.func Q0 fn230) (c_spec_FormatPolicy (⟨true, (x3.cut 1 x3.l.length), (x10.cut 1 x10.l.length), (x11.cut 1 x11.l.length), (((x2.l.getD 3 []).drop 6).take ((x2.l.getD 3 []).length - 6))⟩ : PPolicy) _ ⟨trivial, (Sl.Ok.cut (hs.okow (x := x3) (F := F3) Q1) (by rw [hx3]; exact List.length_pos_iff.2 (splitC_ne _ _)) (by exact Nat.le_refl _)), (Sl.Ok.cut (hs.okow (x := x10) (F := F10) Q1) (by rw [hx10]; exact List.length_pos_iff.2 (splitC_ne _ _)) (by exact Nat.le_refl _)), (Sl.Ok.cut (hs.okow (x := x11) (F := F11) Q1) (by rw [hx11]; exact List.length_pos_iff.2 (splitC_ne _ _)) (by exact Nat.le_refl _)), (by show WfS _; unfold WfS; simp only [List.length_take, List.length_drop]; omega)⟩ (by rw [hpl9]; have := polS_size (s := s) (by rw [← show x2.l = splitC 59 s from hx2]; omega); omega)) ?_
       clear hs; intro w hs
       refine Qm ?_
       refine WL.p Q0 (Yl.nes Q0 Q0) ?_
       refine WL.next ?_
       refine WC.condS Q0 (fun h5 => ?_) (fun h5 => ?_)
       ·
        replace h5 := not_eq_true h5
        replace h5 := of_decide_eq_false h5
        refine WC.seq ?_
        refine WL.p Q0 (Yl.build bt108 Q0 Q4) ?_
        refine WL.s (Yr.storeB hs Q0 Q0 Q0 Q5 Q3 Q0 (by exact szf108)) ?_
        clear hs; rintro _ w hs
        refine Qa ?_
        refine WL.next ?_
        refine WC.ret ?_
        refine At.thenret ?_
        refine fin2c rfl agg108 Q0 Q0 hs Q1 Q0 ?_
        refine Ret.mk hs ?_
        rw [hpl9] at h5
        have hb9 : policyIs s = false := policyIs_bad h1 h5
        exact ⟨⟨false, ⟨[], none, 0⟩, ⟨[], none, 0⟩, ⟨[], none, 0⟩, []⟩, by rw [hb9]; rfl, (policyOf_no (.inr hb9)).symm, ⟨⟨[], PPolicy.zown _, .nil, fun b h => by cases h⟩⟩⟩
       ·
        replace h5 := not_eq_false h5
        replace h5 := of_decide_eq_true h5
        refine WC.skipn ?_
        refine WC.seq ?_
        refine WL.p Q0 (Yl.loadAB agg108 Q0 hs Q1 Q0 Q0) ?_
        refine WL.s (Yr.storeB hs Q0 Q0 Q0 Q5 Q3 Q0 (by exact szf108)) ?_
        clear hs; rintro _ w hs
        refine Qa ?_
        refine WL.next ?_
        refine WC.ret ?_
        refine fin2c rfl agg108 Q0 Q0 hs Q1 Q0 ?_
        refine Ret.mk hs ?_
        rw [hpl9] at h5
        have hq9 : x2.l = splitC 59 s := hx2
        have h49 : 3 ≤ (splitC 59 s).length := by rw [← hq9]; omega
        have hb9 : policyIs s = true := policyIs_good h5 h49
        obtain ⟨G90, hs⟩ := Sat.cutow (lo := 1) (hi := x3.l.length) (hs.sel (D := [ow x3 F3]) Q2) (by rw [hx3]; exact List.length_pos_iff.2 (splitC_ne _ _)) (Nat.le_refl _)
        obtain ⟨G91, hs⟩ := Sat.cutow (lo := 1) (hi := x10.l.length) (hs.sel (D := [ow x10 F10]) Q2) (by rw [hx10]; exact List.length_pos_iff.2 (splitC_ne _ _)) (Nat.le_refl _)
        obtain ⟨G92, hs⟩ := Sat.cutow (lo := 1) (hi := x11.l.length) (hs.sel (D := [ow x11 F11]) Q2) (by rw [hx11]; exact List.length_pos_iff.2 (splitC_ne _ _)) (Nat.le_refl _)
        refine ⟨(⟨true, (x3.cut 1 x3.l.length), (x10.cut 1 x10.l.length), (x11.cut 1 x11.l.length), (((x2.l.getD 3 []).drop 6).take ((x2.l.getD 3 []).length - 6))⟩ : PPolicy), by rw [hb9]; rfl, hpl9.trans (policyOf_good h1 hb9).symm, ?_⟩
        exact (PPolicy.join _ (hs.only (D := [ow (x3.cut 1 x3.l.length) G90, ow (x10.cut 1 x10.l.length) G91, ow (x11.cut 1 x11.l.length) G92]) Q2) trivial (by show WfS _; unfold WfS; first | (simp only [List.length_take, List.length_drop]; omega) | simp)).fresh List.mem_cons_self
      ·
       replace h4 := of_decide_eq_false h4
       refine WC.skipn ?_
       refine WC.seq' ?_
       refine WC.seq ?_
       refine WL.p Q0 (Yl.loadAB agg108 Q0 hs Q1 Q0 Q0) ?_
       have hpl9 : PPolicy.lg (⟨true, (x3.cut 1 x3.l.length), (x10.cut 1 x10.l.length), (x11.cut 1 x11.l.length), ([] : Str)⟩ : PPolicy) = polS s := by
        have e2 : x2.l = splitC 59 s := hx2
        have g0 : x3.l = splitC 32 ((splitC 59 s).getD 0 []) := by rw [← e2]; exact hx3
        have g1 : x10.l = splitC 32 ((splitC 59 s).getD 1 []) := by rw [← e2]; exact hx10
        have g2 : x11.l = splitC 32 ((splitC 59 s).getD 2 []) := by rw [← e2]; exact hx11
        have c0 : (x3.cut 1 x3.l.length).l = (splitC 32 ((splitC 59 s).getD 0 [])).tail := by rw [Sl.cut_full, g0, List.drop_one]
        have c1 : (x10.cut 1 x10.l.length).l = (splitC 32 ((splitC 59 s).getD 1 [])).tail := by rw [Sl.cut_full, g1, List.drop_one]
        have c2 : (x11.cut 1 x11.l.length).l = (splitC 32 ((splitC 59 s).getD 2 [])).tail := by rw [Sl.cut_full, g2, List.drop_one]
        simp only [PPolicy.lg, polS, polOf, c0, c1, c2, TPolicy.mk.injEq, true_and]
        rw [← e2]
        first
         | (rw [if_neg (show ¬ 3 < x2.l.length from fun h => by omega)]; done)
         | (rw [if_pos (show 3 < x2.l.length from Int.ofNat_lt.1 Q7)]; done)
         | (rw [if_pos (show 3 < x2.l.length from Int.ofNat_lt.1 Q7)]
            simp only [nonceS, nonceI]
            first
              | (rfl; done)
              | (rw [if_neg Q7]; done)
              | (rw [if_pos Q7, List.take_of_length_le (by simp)]; done)
              | (rw [if_pos Q7]; done))
       refine WL.callp hs Q0 (Yc.func Q0 fn230) (c_spec_FormatPolicy (⟨true, (x3.cut 1 x3.l.length), (x10.cut 1 x10.l.length), (x11.cut 1 x11.l.length), ([] : Str)⟩ : PPolicy) _ ⟨trivial, (Sl.Ok.cut (hs.okow (x := x3) (F := F3) Q1) (by rw [hx3]; exact List.length_pos_iff.2 (splitC_ne _ _)) (by exact Nat.le_refl _)), (Sl.Ok.cut (hs.okow (x := x10) (F := F10) Q1) (by rw [hx10]; exact List.length_pos_iff.2 (splitC_ne _ _)) (by exact Nat.le_refl _)), (Sl.Ok.cut (hs.okow (x := x11) (F := F11) Q1) (by rw [hx11]; exact List.length_pos_iff.2 (splitC_ne _ _)) (by exact Nat.le_refl _)), (show WfS [] from Nat.zero_le _)⟩ (by rw [hpl9]; have := polS_size (s := s) (by rw [← show x2.l = splitC 59 s from hx2]; omega); omega)) ?_
       clear hs; intro w hs
       refine Qm ?_
       refine WL.p Q0 (Yl.nes Q0 Q0) ?_
       refine WL.next ?_
       refine WC.condS Q0 (fun h5 => ?_) (fun h5 => ?_)
       ·
        replace h5 := not_eq_true h5
        replace h5 := of_decide_eq_false h5
        refine WC.seq ?_
        refine WL.p Q0 (Yl.build bt108 Q0 Q4) ?_
        refine WL.s (Yr.storeB hs Q0 Q0 Q0 Q5 Q3 Q0 (by exact szf108)) ?_
        clear hs; rintro _ w hs
        refine Qa ?_
        refine WL.next ?_
        refine WC.ret ?_
        refine At.thenret ?_
        refine fin2c rfl agg108 Q0 Q0 hs Q1 Q0 ?_
        refine Ret.mk hs ?_
        rw [hpl9] at h5
        have hb9 : policyIs s = false := policyIs_bad h1 h5
        exact ⟨⟨false, ⟨[], none, 0⟩, ⟨[], none, 0⟩, ⟨[], none, 0⟩, []⟩, by rw [hb9]; rfl, (policyOf_no (.inr hb9)).symm, ⟨⟨[], PPolicy.zown _, .nil, fun b h => by cases h⟩⟩⟩
       ·
        replace h5 := not_eq_false h5
        replace h5 := of_decide_eq_true h5
        refine WC.skipn ?_
        refine WC.seq ?_
        refine WL.p Q0 (Yl.loadAB agg108 Q0 hs Q1 Q0 Q0) ?_
        refine WL.s (Yr.storeB hs Q0 Q0 Q0 Q5 Q3 Q0 (by exact szf108)) ?_
        clear hs; rintro _ w hs
        refine Qa ?_
        refine WL.next ?_
        refine WC.ret ?_
        refine fin2c rfl agg108 Q0 Q0 hs Q1 Q0 ?_
        refine Ret.mk hs ?_
        rw [hpl9] at h5
        have hq9 : x2.l = splitC 59 s := hx2
        have h49 : 3 ≤ (splitC 59 s).length := by rw [← hq9]; omega
        have hb9 : policyIs s = true := policyIs_good h5 h49
        obtain ⟨G90, hs⟩ := Sat.cutow (lo := 1) (hi := x3.l.length) (hs.sel (D := [ow x3 F3]) Q2) (by rw [hx3]; exact List.length_pos_iff.2 (splitC_ne _ _)) (Nat.le_refl _)
        obtain ⟨G91, hs⟩ := Sat.cutow (lo := 1) (hi := x10.l.length) (hs.sel (D := [ow x10 F10]) Q2) (by rw [hx10]; exact List.length_pos_iff.2 (splitC_ne _ _)) (Nat.le_refl _)
        obtain ⟨G92, hs⟩ := Sat.cutow (lo := 1) (hi := x11.l.length) (hs.sel (D := [ow x11 F11]) Q2) (by rw [hx11]; exact List.length_pos_iff.2 (splitC_ne _ _)) (Nat.le_refl _)
        refine ⟨(⟨true, (x3.cut 1 x3.l.length), (x10.cut 1 x10.l.length), (x11.cut 1 x11.l.length), ([] : Str)⟩ : PPolicy), by rw [hb9]; rfl, hpl9.trans (policyOf_good h1 hb9).symm, ?_⟩
        exact (PPolicy.join _ (hs.only (D := [ow (x3.cut 1 x3.l.length) G90, ow (x10.cut 1 x10.l.length) G91, ow (x11.cut 1 x11.l.length) G92]) Q2) trivial (by show WfS _; unfold WfS; first | (simp only [List.length_take, List.length_drop]; omega) | simp)).fresh List.mem_cons_self
     ·
      replace h3 := of_decide_eq_false h3
      refine WL.skip (d := 34) Q0 Q0 Q0 Q0 ?_
      refine WL.skip (d := 34) Q0 Q0 Q0 Q0 ?_
      refine WL.skip (d := 34) Q0 Q0 Q0 Q0 ?_
      refine WL.skip (d := 34) Q0 Q0 Q0 Q0 ?_
      refine WL.skip (d := 34) Q0 Q0 Q0 Q0 ?_
      refine WL.p Q0 (Yl.pickF Q0 Q0) ?_
      refine WL.next ?_
      refine WC.condF Q0 ?_
      refine WC.skipn ?_
      refine WC.seq' ?_
      refine WC.seq ?_
      refine WL.p Q0 (Yl.loadAB agg108 Q0 hs Q1 Q0 Q0) ?_
      have hpl9 : PPolicy.lg (⟨true, (x3.cut 1 x3.l.length), (x10.cut 1 x10.l.length), (x11.cut 1 x11.l.length), ([] : Str)⟩ : PPolicy) = polS s := by
       have e2 : x2.l = splitC 59 s := hx2
       have g0 : x3.l = splitC 32 ((splitC 59 s).getD 0 []) := by rw [← e2]; exact hx3
       have g1 : x10.l = splitC 32 ((splitC 59 s).getD 1 []) := by rw [← e2]; exact hx10
       have g2 : x11.l = splitC 32 ((splitC 59 s).getD 2 []) := by rw [← e2]; exact hx11
       have c0 : (x3.cut 1 x3.l.length).l = (splitC 32 ((splitC 59 s).getD 0 [])).tail := by rw [Sl.cut_full, g0, List.drop_one]
       have c1 : (x10.cut 1 x10.l.length).l = (splitC 32 ((splitC 59 s).getD 1 [])).tail := by rw [Sl.cut_full, g1, List.drop_one]
       have c2 : (x11.cut 1 x11.l.length).l = (splitC 32 ((splitC 59 s).getD 2 [])).tail := by rw [Sl.cut_full, g2, List.drop_one]
       simp only [PPolicy.lg, polS, polOf, c0, c1, c2, TPolicy.mk.injEq, true_and]
       rw [← e2]
       first
        | (rw [if_neg (show ¬ 3 < x2.l.length from fun h => by omega)]; done)
        | (rw [if_pos (show 3 < x2.l.length from Int.ofNat_lt.1 Q7)]; done)
        | (rw [if_pos (show 3 < x2.l.length from Int.ofNat_lt.1 Q7)]
           simp only [nonceS, nonceI]
           first
             | (rfl; done)
             | (rw [if_neg Q7]; done)
             | (rw [if_pos Q7, List.take_of_length_le (by simp)]; done)
             | (rw [if_pos Q7]; done))
      refine WL.callp hs Q0 (Yc.func Q0 fn230) (c_spec_FormatPolicy (⟨true, (x3.cut 1 x3.l.length), (x10.cut 1 x10.l.length), (x11.cut 1 x11.l.length), ([] : Str)⟩ : PPolicy) _ ⟨trivial, (Sl.Ok.cut (hs.okow (x := x3) (F := F3) Q1) (by rw [hx3]; exact List.length_pos_iff.2 (splitC_ne _ _)) (by exact Nat.le_refl _)), (Sl.Ok.cut (hs.okow (x := x10) (F := F10) Q1) (by rw [hx10]; exact List.length_pos_iff.2 (splitC_ne _ _)) (by exact Nat.le_refl _)), (Sl.Ok.cut (hs.okow (x := x11) (F := F11) Q1) (by rw [hx11]; exact List.length_pos_iff.2 (splitC_ne _ _)) (by exact Nat.le_refl _)), (show WfS [] from Nat.zero_le _)⟩ (by rw [hpl9]; have := polS_size (s := s) (by rw [← show x2.l = splitC 59 s from hx2]; omega); omega)) ?_
      clear hs; intro w hs
      refine Qm ?_
      refine WL.p Q0 (Yl.nes Q0 Q0) ?_
      refine WL.next ?_
      refine WC.condS Q0 (fun h4 => ?_) (fun h4 => ?_)
      ·
       replace h4 := not_eq_true h4
       replace h4 := of_decide_eq_false h4
       refine WC.seq ?_
       refine WL.p Q0 (Yl.build bt108 Q0 Q4) ?_
       refine WL.s (Yr.storeB hs Q0 Q0 Q0 Q5 Q3 Q0 (by exact szf108)) ?_
       clear hs; rintro _ w hs
       refine Qa ?_
       refine WL.next ?_
       refine WC.ret ?_
       refine At.thenret ?_
       refine fin2c rfl agg108 Q0 Q0 hs Q1 Q0 ?_
       refine Ret.mk hs ?_
       rw [hpl9] at h4
       have hb9 : policyIs s = false := policyIs_bad h1 h4
       exact ⟨⟨false, ⟨[], none, 0⟩, ⟨[], none, 0⟩, ⟨[], none, 0⟩, []⟩, by rw [hb9]; rfl, (policyOf_no (.inr hb9)).symm, ⟨⟨[], PPolicy.zown _, .nil, fun b h => by cases h⟩⟩⟩
      ·
       replace h4 := not_eq_false h4
       replace h4 := of_decide_eq_true h4
       refine WC.skipn ?_
       refine WC.seq ?_
       refine WL.p Q0 (Yl.loadAB agg108 Q0 hs Q1 Q0 Q0) ?_
       refine WL.s (Yr.storeB hs Q0 Q0 Q0 Q5 Q3 Q0 (by exact szf108)) ?_
       clear hs; rintro _ w hs
       refine Qa ?_
       refine WL.next ?_
       refine WC.ret ?_
       refine fin2c rfl agg108 Q0 Q0 hs Q1 Q0 ?_
       refine Ret.mk hs ?_
       rw [hpl9] at h4
       have hq9 : x2.l = splitC 59 s := hx2
       have h49 : 3 ≤ (splitC 59 s).length := by rw [← hq9]; omega
       have hb9 : policyIs s = true := policyIs_good h4 h49
       obtain ⟨G90, hs⟩ := Sat.cutow (lo := 1) (hi := x3.l.length) (hs.sel (D := [ow x3 F3]) Q2) (by rw [hx3]; exact List.length_pos_iff.2 (splitC_ne _ _)) (Nat.le_refl _)
       obtain ⟨G91, hs⟩ := Sat.cutow (lo := 1) (hi := x10.l.length) (hs.sel (D := [ow x10 F10]) Q2) (by rw [hx10]; exact List.length_pos_iff.2 (splitC_ne _ _)) (Nat.le_refl _)
       obtain ⟨G92, hs⟩ := Sat.cutow (lo := 1) (hi := x11.l.length) (hs.sel (D := [ow x11 F11]) Q2) (by rw [hx11]; exact List.length_pos_iff.2 (splitC_ne _ _)) (Nat.le_refl _)
       refine ⟨(⟨true, (x3.cut 1 x3.l.length), (x10.cut 1 x10.l.length), (x11.cut 1 x11.l.length), ([] : Str)⟩ : PPolicy), by rw [hb9]; rfl, hpl9.trans (policyOf_good h1 hb9).symm, ?_⟩
       exact (PPolicy.join _ (hs.only (D := [ow (x3.cut 1 x3.l.length) G90, ow (x10.cut 1 x10.l.length) G91, ow (x11.cut 1 x11.l.length) G92]) Q2) trivial (by show WfS _; unfold WfS; first | (simp only [List.length_take, List.length_drop]; omega) | simp)).fresh List.mem_cons_self
   ·
    refine WI.r (i := 16) Q0 Q0 (Yr.alloc hs zt108) (by rintro _ w ⟨b12, rfl, hb, hs⟩; exact hs.only Q2) ?_
    clear hs; rintro _ w ⟨b12, rfl, hb, hs⟩; clear hb
    refine WA.call2 (i := 3) hs (fun _ hs => hs.only Q2) Q6 Q0 Q0 (Yc.func Q0 fn109) (c_spec_l5Split _ 32 _ (by first | (have := getD_len (s := s) (i := 0); rw [← show x2.l = splitC 59 s from hx2] at this; omega) | (have := getD_len (s := s) (i := 1); rw [← show x2.l = splitC 59 s from hx2] at this; omega) | (have := getD_len (s := s) (i := 2); rw [← show x2.l = splitC 59 s from hx2] at this; omega) | (have := getD_len (s := s) (i := 3); rw [← show x2.l = splitC 59 s from hx2] at this; omega))) ?_
    have hs0 := hs; clear hs; intro v w hb hR hs; clear hs
    obtain ⟨x13, rfl, hx13, hf13⟩ := hR
    obtain ⟨F13, hs⟩ := hf13.sat hs0 hb; clear hs0 hf13
    have hle13 := Sl.Ok.le (hs.okow (x := x13) (F := F13) Q1)
    refine WA.p (i := 4) Q0 Q6 Q6 Q6 Q0 (hs.only Q2) (fun w hs => Yl.slice_sl (s := x13) (l := 1) (h := x13.l.length) slt34 Q0 hle13 (by exact ⟨_, by rfl⟩) (by exact rfl) (by rw [hx13]; exact List.length_pos_iff.2 (splitC_ne _ _)) (by exact Nat.le_refl _)) ?_
    refine WA.call2 (i := 8) hs (fun _ hs => hs.only Q2) Q6 Q0 Q0 (Yc.func Q0 fn109) (c_spec_l5Split _ 32 _ (by first | (have := getD_len (s := s) (i := 0); rw [← show x2.l = splitC 59 s from hx2] at this; omega) | (have := getD_len (s := s) (i := 1); rw [← show x2.l = splitC 59 s from hx2] at this; omega) | (have := getD_len (s := s) (i := 2); rw [← show x2.l = splitC 59 s from hx2] at this; omega) | (have := getD_len (s := s) (i := 3); rw [← show x2.l = splitC 59 s from hx2] at this; omega))) ?_
    have hs0 := hs; clear hs; intro v w hb hR hs; clear hs
    obtain ⟨x14, rfl, hx14, hf14⟩ := hR
    obtain ⟨F14, hs⟩ := hf14.sat hs0 hb; clear hs0 hf14
    have hle14 := Sl.Ok.le (hs.okow (x := x14) (F := F14) Q1)
    refine WA.p (i := 9) Q0 Q6 Q6 Q6 Q0 (hs.only Q2) (fun w hs => Yl.slice_sl (s := x14) (l := 1) (h := x14.l.length) slt34 Q0 hle14 (by exact ⟨_, by rfl⟩) (by exact rfl) (by rw [hx14]; exact List.length_pos_iff.2 (splitC_ne _ _)) (by exact Nat.le_refl _)) ?_
    refine WA.call2 (i := 13) hs (fun _ hs => hs.only Q2) Q6 Q0 Q0 (Yc.func Q0 fn109) (c_spec_l5Split _ 32 _ (by first | (have := getD_len (s := s) (i := 0); rw [← show x2.l = splitC 59 s from hx2] at this; omega) | (have := getD_len (s := s) (i := 1); rw [← show x2.l = splitC 59 s from hx2] at this; omega) | (have := getD_len (s := s) (i := 2); rw [← show x2.l = splitC 59 s from hx2] at this; omega) | (have := getD_len (s := s) (i := 3); rw [← show x2.l = splitC 59 s from hx2] at this; omega))) ?_
    have hs0 := hs; clear hs; intro v w hb hR hs; clear hs
    obtain ⟨x15, rfl, hx15, hf15⟩ := hR
    obtain ⟨F15, hs⟩ := hf15.sat hs0 hb; clear hs0 hf15
    have hle15 := Sl.Ok.le (hs.okow (x := x15) (F := F15) Q1)
    refine WA.r (i := 14) Q6 Q0 Q0 (Yl.yr (Yl.slice_sl (s := x15) (l := 1) (h := x15.l.length) slt34 Q0 hle15 (by exact ⟨_, by rfl⟩) (by exact rfl) (by rw [hx15]; exact List.length_pos_iff.2 (splitC_ne _ _)) (by exact Nat.le_refl _))) (by rintro _ _ ⟨rfl, rfl⟩; exact hs.only Q2) ?_
    rintro _ _ ⟨rfl, rfl⟩
    refine WA.p (i := 15) Q0 Q6 Q6 Q6 Q0 (hs.only Q2) (fun w hs => Yl.build bt108 Q0 Q4) ?_
    refine WA.s (i := 17) Q6 Q0 (Yr.storeB hs Q0 Q0 Q0 Q5 Q3 Q0 (by exact szf108)) (by rintro _ w hs; exact hs.only Q2) ?_
    clear hs; rintro _ w hs
    refine WA.donen Q6 ?_
    refine WC.seq' ?_
    refine WC.seq ?_
    refine Qm ?_
    refine WL.p Q0 (Yl.len_sl slu34 Q0) ?_
    refine WL.p Q0 (Yl.gtr Q0 Q0) ?_
    refine Qm ?_
    refine WL.split (d := 34) Q0 (fun h3 => ?_) (fun h3 => ?_)
    ·
     replace h3 := of_decide_eq_true h3
     refine WL.run (d := 34) Q0 Q0 ?_
     refine Qm ?_
     refine WL.run (d := 34) Q0 Q0 ?_
     refine WL.p Q0 (Yl.indexAddr (k := 3) slt34 Q0 Q0 (hs.okow (x := x2) (F := F2) Q1) Q0 ((getD_some (i := 3) (z := ([] : Str)) Q7))) ?_
     refine WL.run (d := 34) Q0 Q0 ?_
     refine WL.p Q0 (Yl.loadC0 sca9 Q0 (Sl.Ok.at_ (hs.okow (x := x2) (F := F2) Q1) ((getD_some (i := 3) (z := ([] : Str)) Q7))).2 Q0) ?_
     refine WL.run (d := 34) Q0 Q0 ?_
     refine WL.p Q0 (Yl.len_str str9 Q0) ?_
     refine WL.run (d := 34) Q0 Q0 ?_
     refine WL.p Q0 (Yl.gtr Q0 Q0) ?_
     refine WL.p Q0 (Yl.pickT Q0 Q0) ?_
     refine WL.next ?_
     refine WC.condS Q0 (fun h4 => ?_) (fun h4 => ?_)
     ·
      replace h4 := of_decide_eq_true h4
      refine WC.region ?_
      refine Qm ?_
      refine WL.p Q0 (Yl.indexAddr (k := 3) slt34 Q0 Q0 (hs.okow (x := x2) (F := F2) Q1) Q0 ((getD_some (i := 3) (z := ([] : Str)) Q7))) ?_
      refine WL.p Q0 (Yl.loadC0 sca9 Q0 (Sl.Ok.at_ (hs.okow (x := x2) (F := F2) Q1) ((getD_some (i := 3) (z := ([] : Str)) Q7))).2 Q0) ?_
      refine WL.p Q0 (Yl.slice_str (l := 6) str9 Q0 (by exact ⟨_, by rfl⟩) (by exact rfl) Q7 Q7) ?_
      refine WL.p Q0 (Yl.fieldAddr fa108_4 Q0) ?_
      refine WL.s (Yr.storeB hs Q0 Q0 Q0 Q5 Q3 Q0 (by exact szf9)) ?_
      clear hs; rintro _ w hs
      refine WL.nil ?_
      refine At.then_ ?_
      refine WC.seq' ?_
      refine WC.seq ?_
      refine WL.p Q0 (Yl.loadAB agg108 Q0 hs Q1 Q0 Q0) ?_
      have hpl9 : PPolicy.lg (⟨true, (x13.cut 1 x13.l.length), (x14.cut 1 x14.l.length), (x15.cut 1 x15.l.length), (((x2.l.getD 3 []).drop 6).take ((x2.l.getD 3 []).length - 6))⟩ : PPolicy) = polS s := by
       have e2 : x2.l = splitC 59 s := hx2
       have g0 : x13.l = splitC 32 ((splitC 59 s).getD 0 []) := by rw [← e2]; exact hx13
       have g1 : x14.l = splitC 32 ((splitC 59 s).getD 1 []) := by rw [← e2]; exact hx14
       have g2 : x15.l = splitC 32 ((splitC 59 s).getD 2 []) := by rw [← e2]; exact hx15
       have c0 : (x13.cut 1 x13.l.length).l = (splitC 32 ((splitC 59 s).getD 0 [])).tail := by rw [Sl.cut_full, g0, List.drop_one]
       have c1 : (x14.cut 1 x14.l.length).l = (splitC 32 ((splitC 59 s).getD 1 [])).tail := by rw [Sl.cut_full, g1, List.drop_one]
       have c2 : (x15.cut 1 x15.l.length).l = (splitC 32 ((splitC 59 s).getD 2 [])).tail := by rw [Sl.cut_full, g2, List.drop_one]
       simp only [PPolicy.lg, polS, polOf, c0, c1, c2, TPolicy.mk.injEq, true_and]
       rw [← e2]
       first
        | (rw [if_neg (show ¬ 3 < x2.l.length from fun h => by omega)]; done)
        | (rw [if_pos (show 3 < x2.l.length from Int.ofNat_lt.1 Q7)]; done)
        | (rw [if_pos (show 3 < x2.l.length from Int.ofNat_lt.1 Q7)]
           simp only [nonceS, nonceI]
           first
             | (rfl; done)
             | (rw [if_neg Q7]; done)
             | (rw [if_pos Q7, List.take_of_length_le (by simp)]; done)
             | (rw [if_pos Q7]; done))
      refine WL.callp hs Q0 (Yc.func Q0 fn230) (c_spec_FormatPolicy (⟨true, (x13.cut 1 x13.l.length), (x14.cut 1 x14.l.length), (x15.cut 1 x15.l.length), (((x2.l.getD 3 []).drop 6).take ((x2.l.getD 3 []).length - 6))⟩ : PPolicy) _ ⟨trivial, (Sl.Ok.cut (hs.okow (x := x13) (F := F13) Q1) (by rw [hx13]; exact List.length_pos_iff.2 (splitC_ne _ _)) (by exact Nat.le_refl _)), (Sl.Ok.cut (hs.okow (x := x14) (F := F14) Q1) (by rw [hx14]; exact List.length_pos_iff.2 (splitC_ne _ _)) (by exact Nat.le_refl _)), (Sl.Ok.cut (hs.okow (x := x15) (F := F15) Q1) (by rw [hx15]; exact List.length_pos_iff.2 (splitC_ne _ _)) (by exact Nat.le_refl _)), (by show WfS _; unfold WfS; simp only [List.length_take, List.length_drop]; omega)⟩ (by rw [hpl9]; have := polS_size (s := s) (by rw [← show x2.l = splitC 59 s from hx2]; omega); omega)) ?_
      clear hs; intro w hs
      refine Qm ?_
      refine WL.p Q0 (Yl.nes Q0 Q0) ?_
      refine WL.next ?_
      refine WC.condS Q0 (fun h5 => ?_) (fun h5 => ?_)
      ·
       replace h5 := not_eq_true h5
       replace h5 := of_decide_eq_false h5
       refine WC.seq ?_
       refine WL.p Q0 (Yl.build bt108 Q0 Q4) ?_
       refine WL.s (Yr.storeB hs Q0 Q0 Q0 Q5 Q3 Q0 (by exact szf108)) ?_
       clear hs; rintro _ w hs
       refine Qa ?_
       refine WL.next ?_
       refine WC.ret ?_
       refine At.thenret ?_
       refine fin2c rfl agg108 Q0 Q0 hs Q1 Q0 ?_
       refine Ret.mk hs ?_
       rw [hpl9] at h5
       have hb9 : policyIs s = false := policyIs_bad h1 h5
       exact ⟨⟨false, ⟨[], none, 0⟩, ⟨[], none, 0⟩, ⟨[], none, 0⟩, []⟩, by rw [hb9]; rfl, (policyOf_no (.inr hb9)).symm, ⟨⟨[], PPolicy.zown _, .nil, fun b h => by cases h⟩⟩⟩
      ·
       replace h5 := not_eq_false h5
       replace h5 := of_decide_eq_true h5
       refine WC.skipn ?_
       refine WC.seq ?_
       refine WL.p Q0 (Yl.loadAB agg108 Q0 hs Q1 Q0 Q0) ?_
       refine WL.s (Yr.storeB hs Q0 Q0 Q0 Q5 Q3 Q0 (by exact szf108)) ?_
       clear hs; rintro _ w hs
       refine Qa ?_
       refine WL.next ?_
       refine WC.ret ?_
       refine fin2c rfl agg108 Q0 Q0 hs Q1 Q0 ?_
       refine Ret.mk hs ?_
       rw [hpl9] at h5
       have hq9 : x2.l = splitC 59 s := hx2
       have h49 : 3 ≤ (splitC 59 s).length := by rw [← hq9]; omega
       have hb9 : policyIs s = true := policyIs_good h5 h49
       obtain ⟨G90, hs⟩ := Sat.cutow (lo := 1) (hi := x13.l.length) (hs.sel (D := [ow x13 F13]) Q2) (by rw [hx13]; exact List.length_pos_iff.2 (splitC_ne _ _)) (Nat.le_refl _)
       obtain ⟨G91, hs⟩ := Sat.cutow (lo := 1) (hi := x14.l.length) (hs.sel (D := [ow x14 F14]) Q2) (by rw [hx14]; exact List.length_pos_iff.2 (splitC_ne _ _)) (Nat.le_refl _)
       obtain ⟨G92, hs⟩ := Sat.cutow (lo := 1) (hi := x15.l.length) (hs.sel (D := [ow x15 F15]) Q2) (by rw [hx15]; exact List.length_pos_iff.2 (splitC_ne _ _)) (Nat.le_refl _)
       refine ⟨(⟨true, (x13.cut 1 x13.l.length), (x14.cut 1 x14.l.length), (x15.cut 1 x15.l.length), (((x2.l.getD 3 []).drop 6).take ((x2.l.getD 3 []).length - 6))⟩ : PPolicy), by rw [hb9]; rfl, hpl9.trans (policyOf_good h1 hb9).symm, ?_⟩
       exact (PPolicy.join _ (hs.only (D := [ow (x13.cut 1 x13.l.length) G90, ow (x14.cut 1 x14.l.length) G91, ow (x15.cut 1 x15.l.length) G92]) Q2) trivial (by show WfS _; unfold WfS; first | (simp only [List.length_take, List.length_drop]; omega) | simp)).fresh List.mem_cons_self
     ·
      replace h4 := of_decide_eq_false h4
      refine WC.skipn ?_
      refine WC.seq' ?_
      refine WC.seq ?_
      refine WL.p Q0 (Yl.loadAB agg108 Q0 hs Q1 Q0 Q0) ?_
      have hpl9 : PPolicy.lg (⟨true, (x13.cut 1 x13.l.length), (x14.cut 1 x14.l.length), (x15.cut 1 x15.l.length), ([] : Str)⟩ : PPolicy) = polS s := by
       have e2 : x2.l = splitC 59 s := hx2
       have g0 : x13.l = splitC 32 ((splitC 59 s).getD 0 []) := by rw [← e2]; exact hx13
       have g1 : x14.l = splitC 32 ((splitC 59 s).getD 1 []) := by rw [← e2]; exact hx14
       have g2 : x15.l = splitC 32 ((splitC 59 s).getD 2 []) := by rw [← e2]; exact hx15
       have c0 : (x13.cut 1 x13.l.length).l = (splitC 32 ((splitC 59 s).getD 0 [])).tail := by rw [Sl.cut_full, g0, List.drop_one]
       have c1 : (x14.cut 1 x14.l.length).l = (splitC 32 ((splitC 59 s).getD 1 [])).tail := by rw [Sl.cut_full, g1, List.drop_one]
       have c2 : (x15.cut 1 x15.l.length).l = (splitC 32 ((splitC 59 s).getD 2 [])).tail := by rw [Sl.cut_full, g2, List.drop_one]
       simp only [PPolicy.lg, polS, polOf, c0, c1, c2, TPolicy.mk.injEq, true_and]
       rw [← e2]
       first
        | (rw [if_neg (show ¬ 3 < x2.l.length from fun h => by omega)]; done)
        | (rw [if_pos (show 3 < x2.l.length from Int.ofNat_lt.1 Q7)]; done)
        | (rw [if_pos (show 3 < x2.l.length from Int.ofNat_lt.1 Q7)]
           simp only [nonceS, nonceI]
           first
             | (rfl; done)
             | (rw [if_neg Q7]; done)
             | (rw [if_pos Q7, List.take_of_length_le (by simp)]; done)
             | (rw [if_pos Q7]; done))
      refine WL.callp hs Q0 (Yc.func Q0 fn230) (c_spec_FormatPolicy (⟨true, (x13.cut 1 x13.l.length), (x14.cut 1 x14.l.length), (x15.cut 1 x15.l.length), ([] : Str)⟩ : PPolicy) _ ⟨trivial, (Sl.Ok.cut (hs.okow (x := x13) (F := F13) Q1) (by rw [hx13]; exact List.length_pos_iff.2 (splitC_ne _ _)) (by exact Nat.le_refl _)), (Sl.Ok.cut (hs.okow (x := x14) (F := F14) Q1) (by rw [hx14]; exact List.length_pos_iff.2 (splitC_ne _ _)) (by exact Nat.le_refl _)), (Sl.Ok.cut (hs.okow (x := x15) (F := F15) Q1) (by rw [hx15]; exact List.length_pos_iff.2 (splitC_ne _ _)) (by exact Nat.le_refl _)), (show WfS [] from Nat.zero_le _)⟩ (by rw [hpl9]; have := polS_size (s := s) (by rw [← show x2.l = splitC 59 s from hx2]; omega); omega)) ?_
      clear hs; intro w hs
      refine Qm ?_
      refine WL.p Q0 (Yl.nes Q0 Q0) ?_
      refine WL.next ?_
      refine WC.condS Q0 (fun h5 => ?_) (fun h5 => ?_)
      ·
       replace h5 := not_eq_true h5
       replace h5 := of_decide_eq_false h5
       refine WC.seq ?_
       refine WL.p Q0 (Yl.build bt108 Q0 Q4) ?_
       refine WL.s (Yr.storeB hs Q0 Q0 Q0 Q5 Q3 Q0 (by exact szf108)) ?_
       clear hs; rintro _ w hs
       refine Qa ?_
       refine WL.next ?_
       refine WC.ret ?_
       refine At.thenret ?_
       refine fin2c rfl agg108 Q0 Q0 hs Q1 Q0 ?_
       refine Ret.mk hs ?_
       rw [hpl9] at h5
       have hb9 : policyIs s = false := policyIs_bad h1 h5
       exact ⟨⟨false, ⟨[], none, 0⟩, ⟨[], none, 0⟩, ⟨[], none, 0⟩, []⟩, by rw [hb9]; rfl, (policyOf_no (.inr hb9)).symm, ⟨⟨[], PPolicy.zown _, .nil, fun b h => by cases h⟩⟩⟩
      ·
       replace h5 := not_eq_false h5
       replace h5 := of_decide_eq_true h5
       refine WC.skipn ?_
       refine WC.seq ?_
       refine WL.p Q0 (Yl.loadAB agg108 Q0 hs Q1 Q0 Q0) ?_
       refine WL.s (Yr.storeB hs Q0 Q0 Q0 Q5 Q3 Q0 (by exact szf108)) ?_
       clear hs; rintro _ w hs
       refine Qa ?_
       refine WL.next ?_
       refine WC.ret ?_
       refine fin2c rfl agg108 Q0 Q0 hs Q1 Q0 ?_
       refine Ret.mk hs ?_
       rw [hpl9] at h5
       have hq9 : x2.l = splitC 59 s := hx2
       have h49 : 3 ≤ (splitC 59 s).length := by rw [← hq9]; omega
       have hb9 : policyIs s = true := policyIs_good h5 h49
       obtain ⟨G90, hs⟩ := Sat.cutow (lo := 1) (hi := x13.l.length) (hs.sel (D := [ow x13 F13]) Q2) (by rw [hx13]; exact List.length_pos_iff.2 (splitC_ne _ _)) (Nat.le_refl _)
       obtain ⟨G91, hs⟩ := Sat.cutow (lo := 1) (hi := x14.l.length) (hs.sel (D := [ow x14 F14]) Q2) (by rw [hx14]; exact List.length_pos_iff.2 (splitC_ne _ _)) (Nat.le_refl _)
       obtain ⟨G92, hs⟩ := Sat.cutow (lo := 1) (hi := x15.l.length) (hs.sel (D := [ow x15 F15]) Q2) (by rw [hx15]; exact List.length_pos_iff.2 (splitC_ne _ _)) (Nat.le_refl _)
       refine ⟨(⟨true, (x13.cut 1 x13.l.length), (x14.cut 1 x14.l.length), (x15.cut 1 x15.l.length), ([] : Str)⟩ : PPolicy), by rw [hb9]; rfl, hpl9.trans (policyOf_good h1 hb9).symm, ?_⟩
       exact (PPolicy.join _ (hs.only (D := [ow (x13.cut 1 x13.l.length) G90, ow (x14.cut 1 x14.l.length) G91, ow (x15.cut 1 x15.l.length) G92]) Q2) trivial (by show WfS _; unfold WfS; first | (simp only [List.length_take, List.length_drop]; omega) | simp)).fresh List.mem_cons_self
    ·
     replace h3 := of_decide_eq_false h3
     refine WL.skip (d := 34) Q0 Q0 Q0 Q0 ?_
     refine WL.skip (d := 34) Q0 Q0 Q0 Q0 ?_
     refine WL.skip (d := 34) Q0 Q0 Q0 Q0 ?_
     refine WL.skip (d := 34) Q0 Q0 Q0 Q0 ?_
     refine WL.skip (d := 34) Q0 Q0 Q0 Q0 ?_
     refine WL.p Q0 (Yl.pickF Q0 Q0) ?_
     refine WL.next ?_
     refine WC.condF Q0 ?_
     refine WC.skipn ?_
     refine WC.seq' ?_
     refine WC.seq ?_
     refine WL.p Q0 (Yl.loadAB agg108 Q0 hs Q1 Q0 Q0) ?_
     have hpl9 : PPolicy.lg (⟨true, (x13.cut 1 x13.l.length), (x14.cut 1 x14.l.length), (x15.cut 1 x15.l.length), ([] : Str)⟩ : PPolicy) = polS s := by
      have e2 : x2.l = splitC 59 s := hx2
      have g0 : x13.l = splitC 32 ((splitC 59 s).getD 0 []) := by rw [← e2]; exact hx13
      have g1 : x14.l = splitC 32 ((splitC 59 s).getD 1 []) := by rw [← e2]; exact hx14
      have g2 : x15.l = splitC 32 ((splitC 59 s).getD 2 []) := by rw [← e2]; exact hx15
      have c0 : (x13.cut 1 x13.l.length).l = (splitC 32 ((splitC 59 s).getD 0 [])).tail := by rw [Sl.cut_full, g0, List.drop_one]
      have c1 : (x14.cut 1 x14.l.length).l = (splitC 32 ((splitC 59 s).getD 1 [])).tail := by rw [Sl.cut_full, g1, List.drop_one]
      have c2 : (x15.cut 1 x15.l.length).l = (splitC 32 ((splitC 59 s).getD 2 [])).tail := by rw [Sl.cut_full, g2, List.drop_one]
      simp only [PPolicy.lg, polS, polOf, c0, c1, c2, TPolicy.mk.injEq, true_and]
      rw [← e2]
      first
       | (rw [if_neg (show ¬ 3 < x2.l.length from fun h => by omega)]; done)
       | (rw [if_pos (show 3 < x2.l.length from Int.ofNat_lt.1 Q7)]; done)
       | (rw [if_pos (show 3 < x2.l.length from Int.ofNat_lt.1 Q7)]
          simp only [nonceS, nonceI]
          first
            | (rfl; done)
            | (rw [if_neg Q7]; done)
            | (rw [if_pos Q7, List.take_of_length_le (by simp)]; done)
            | (rw [if_pos Q7]; done))
     refine WL.callp hs Q0 (Yc.func Q0 fn230) (c_spec_FormatPolicy (⟨true, (x13.cut 1 x13.l.length), (x14.cut 1 x14.l.length), (x15.cut 1 x15.l.length), ([] : Str)⟩ : PPolicy) _ ⟨trivial, (Sl.Ok.cut (hs.okow (x := x13) (F := F13) Q1) (by rw [hx13]; exact List.length_pos_iff.2 (splitC_ne _ _)) (by exact Nat.le_refl _)), (Sl.Ok.cut (hs.okow (x := x14) (F := F14) Q1) (by rw [hx14]; exact List.length_pos_iff.2 (splitC_ne _ _)) (by exact Nat.le_refl _)), (Sl.Ok.cut (hs.okow (x := x15) (F := F15) Q1) (by rw [hx15]; exact List.length_pos_iff.2 (splitC_ne _ _)) (by exact Nat.le_refl _)), (show WfS [] from Nat.zero_le _)⟩ (by rw [hpl9]; have := polS_size (s := s) (by rw [← show x2.l = splitC 59 s from hx2]; omega); omega)) ?_
     clear hs; intro w hs
     refine Qm ?_
     refine WL.p Q0 (Yl.nes Q0 Q0) ?_
     refine WL.next ?_
     refine WC.condS Q0 (fun h4 => ?_) (fun h4 => ?_)
     ·
      replace h4 := not_eq_true h4
      replace h4 := of_decide_eq_false h4
      refine WC.seq ?_
      refine WL.p Q0 (Yl.build bt108 Q0 Q4) ?_
      refine WL.s (Yr.storeB hs Q0 Q0 Q0 Q5 Q3 Q0 (by exact szf108)) ?_
      clear hs; rintro _ w hs
      refine Qa ?_
      refine WL.next ?_
      refine WC.ret ?_
      refine At.thenret ?_
      refine fin2c rfl agg108 Q0 Q0 hs Q1 Q0 ?_
      refine Ret.mk hs ?_
      rw [hpl9] at h4
      have hb9 : policyIs s = false := policyIs_bad h1 h4
      exact ⟨⟨false, ⟨[], none, 0⟩, ⟨[], none, 0⟩, ⟨[], none, 0⟩, []⟩, by rw [hb9]; rfl, (policyOf_no (.inr hb9)).symm, ⟨⟨[], PPolicy.zown _, .nil, fun b h => by cases h⟩⟩⟩
     ·
      replace h4 := not_eq_false h4
      replace h4 := of_decide_eq_true h4
      refine WC.skipn ?_
      refine WC.seq ?_
      refine WL.p Q0 (Yl.loadAB agg108 Q0 hs Q1 Q0 Q0) ?_
      refine WL.s (Yr.storeB hs Q0 Q0 Q0 Q5 Q3 Q0 (by exact szf108)) ?_
      clear hs; rintro _ w hs
      refine Qa ?_
      refine WL.next ?_
      refine WC.ret ?_
      refine fin2c rfl agg108 Q0 Q0 hs Q1 Q0 ?_
      refine Ret.mk hs ?_
      rw [hpl9] at h4
      have hq9 : x2.l = splitC 59 s := hx2
      have h49 : 3 ≤ (splitC 59 s).length := by rw [← hq9]; omega
      have hb9 : policyIs s = true := policyIs_good h4 h49
      obtain ⟨G90, hs⟩ := Sat.cutow (lo := 1) (hi := x13.l.length) (hs.sel (D := [ow x13 F13]) Q2) (by rw [hx13]; exact List.length_pos_iff.2 (splitC_ne _ _)) (Nat.le_refl _)
      obtain ⟨G91, hs⟩ := Sat.cutow (lo := 1) (hi := x14.l.length) (hs.sel (D := [ow x14 F14]) Q2) (by rw [hx14]; exact List.length_pos_iff.2 (splitC_ne _ _)) (Nat.le_refl _)
      obtain ⟨G92, hs⟩ := Sat.cutow (lo := 1) (hi := x15.l.length) (hs.sel (D := [ow x15 F15]) Q2) (by rw [hx15]; exact List.length_pos_iff.2 (splitC_ne _ _)) (Nat.le_refl _)
      refine ⟨(⟨true, (x13.cut 1 x13.l.length), (x14.cut 1 x14.l.length), (x15.cut 1 x15.l.length), ([] : Str)⟩ : PPolicy), by rw [hb9]; rfl, hpl9.trans (policyOf_good h1 hb9).symm, ?_⟩
      exact (PPolicy.join _ (hs.only (D := [ow (x13.cut 1 x13.l.length) G90, ow (x14.cut 1 x14.l.length) G91, ow (x15.cut 1 x15.l.length) G92]) Q2) trivial (by show WfS _; unfold WfS; first | (simp only [List.length_take, List.length_drop]; omega) | simp)).fresh List.mem_cons_self

theorem c_spec_IsResponse (x : TResponse) (w : World) (h_x : Ph.ok w x) (hb : x.policy.length ≤ 1048576) : Calls Tryz.prog 163 [.agg #[I x.status, I x.kind, S x.body, I x.age, Bo x.shares, S x.policy]].toArray w (RetP w (Bo x.isv)) := by
 refine enterN 33 Tryz.func163 rfl rfl rfl ?_
 have hs := Sat.start w
 refine WC.seq ?_
 refine WL.r Q0 (Yr.box hs Q0 Q0) ?_
 clear hs; rintro _ w ⟨b1, rfl, hb, hs⟩; clear hb
 refine Qa ?_
 refine WL.next ?_
 refine WC.seq ?_
 refine WL.p Q0 (Yl.fieldAddr fa72_5 Q0) ?_
 refine WL.p Q0 (Yl.loadB sca9 Q0 hs Q1 Q0) ?_
 refine WL.call hs Q0 (Yc.func Q0 fn233) (c_spec_ParsePolicy _ _ Q10) ?_
 have hs0 := hs; clear hs; intro v w hb hR hs; clear hs
 obtain ⟨x2, rfl, hx2, hf2⟩ := hR
 obtain ⟨F2, hs⟩ := hf2.sat hs0 hb; clear hs0 hf2
 refine Qm ?_
 refine WL.p Q0 (Yl.extract Q0 Q0) ?_
 refine WL.p Q0 (Yl.extract Q0 Q0) ?_
 refine WL.r Q0 (Yr.alloc hs zt108) ?_
 clear hs; rintro _ w ⟨b3, rfl, hb, hs⟩; clear hb
 refine WL.s (Yr.storeB hs Q0 Q0 Q0 Q5 Q3 Q0 (by exact szf108)) ?_
 clear hs; rintro _ w hs
 refine Qa ?_
 refine WL.next ?_
 refine WC.seq ?_
 refine WL.p Q0 (Yl.fieldAddr fa72_0 Q0) ?_
 refine WL.p Q0 (Yl.loadB sca3 Q0 hs Q1 Q0) ?_
 refine WL.callp hs Q0 (Yc.func Q0 fn95) (c_spec_l1In _ _ _ _) ?_
 clear hs; intro w hs
 refine Qm ?_
 refine WL.split (d := 14) Q0 (fun h1 => ?_) (fun h1 => ?_)
 ·
  replace h1 := inR_true.1 h1
  refine WL.run (d := 14) Q0 Q0 ?_
  refine WL.p Q0 (Yl.fieldAddr fa72_1 Q0) ?_
  refine WL.run (d := 14) Q0 Q0 ?_
  refine WL.p Q0 (Yl.loadB sca3 Q0 hs Q1 Q0) ?_
  refine WL.run (d := 14) Q0 Q0 ?_
  refine WL.callp hs Q0 (Yc.func Q0 fn95) (c_spec_l1In _ _ _ _) ?_
  clear hs; intro w hs
  refine WL.p Q0 (Yl.pickT Q0 Q0) ?_
  refine Qm ?_
  refine WL.split (d := 19) Q0 (fun h2 => ?_) (fun h2 => ?_)
  ·
   replace h2 := inR_true.1 h2
   refine WL.run (d := 19) Q0 Q0 ?_
   refine WL.p Q0 (Yl.fieldAddr fa72_2 Q0) ?_
   refine WL.run (d := 19) Q0 Q0 ?_
   refine WL.p Q0 (Yl.loadB sca9 Q0 hs Q1 Q0) ?_
   refine WL.run (d := 19) Q0 Q0 ?_
   refine WL.p Q0 (Yl.len_str str9 Q0) ?_
   refine WL.run (d := 19) Q0 Q0 ?_
   refine WL.p Q0 (Yl.leq Q0 Q0) ?_
   refine WL.p Q0 (Yl.pickT Q0 Q0) ?_
   refine Qm ?_
   refine WL.split (d := 25) Q0 (fun h3 => ?_) (fun h3 => ?_)
   ·
    replace h3 := of_decide_eq_true h3
    refine WL.run (d := 25) Q0 Q0 ?_
    refine WL.p Q0 (Yl.fieldAddr fa72_3 Q0) ?_
    refine WL.run (d := 25) Q0 Q0 ?_
    refine WL.p Q0 (Yl.loadB sca3 Q0 hs Q1 Q0) ?_
    refine WL.run (d := 25) Q0 Q0 ?_
    refine WL.callp hs Q0 (Yc.func Q0 fn95) (c_spec_l1In _ _ _ _) ?_
    clear hs; intro w hs
    refine WL.p Q0 (Yl.pickT Q0 Q0) ?_
    refine Qm ?_
    refine WL.split (d := 30) Q0 (fun h4 => ?_) (fun h4 => ?_)
    ·
     replace h4 := inR_true.1 h4
     refine WL.run (d := 30) Q0 Q0 ?_
     refine Qm ?_
     refine WL.p Q0 (Yl.pickT Q0 Q0) ?_
     refine Qa ?_
     refine WL.next ?_
     refine WC.ret ?_
     refine fin1' rfl Q0 ?_
     refine RetP.mk hs ?_
     clear hs hb h_x
     try simp only [← inR_true] at *
     try simp only [← inR_false] at *
     simp_all [TResponse.isv]
     try (intro hh; omega)
    ·
     replace h4 := inR_false.1 h4
     refine WL.skip (d := 30) Q0 Q0 Q0 Q0 ?_
     refine WL.p Q0 (Yl.pickF Q0 Q0) ?_
     refine Qa ?_
     refine WL.next ?_
     refine WC.ret ?_
     refine fin1' rfl Q0 ?_
     refine RetP.mk hs ?_
     clear hs hb h_x
     try simp only [← inR_true] at *
     try simp only [← inR_false] at *
     simp_all [TResponse.isv]
     try (intro hh; omega)
   ·
    replace h3 := of_decide_eq_false h3
    refine WL.skip (d := 25) Q0 Q0 Q0 Q0 ?_
    refine WL.skip (d := 25) Q0 Q0 Q0 Q0 ?_
    refine WL.skip (d := 25) Q0 Q0 Q0 Q0 ?_
    refine WL.p Q0 (Yl.pickF Q0 Q0) ?_
    refine Qm ?_
    refine WL.skip (d := 30) Q0 Q0 Q0 Q0 ?_
    refine WL.p Q0 (Yl.pickF Q0 Q0) ?_
    refine Qa ?_
    refine WL.next ?_
    refine WC.ret ?_
    refine fin1' rfl Q0 ?_
    refine RetP.mk hs ?_
    clear hs hb h_x
    try simp only [← inR_true] at *
    try simp only [← inR_false] at *
    simp_all [TResponse.isv]
    try (intro hh; omega)
  ·
   replace h2 := inR_false.1 h2
   refine WL.skip (d := 19) Q0 Q0 Q0 Q0 ?_
   refine WL.skip (d := 19) Q0 Q0 Q0 Q0 ?_
   refine WL.skip (d := 19) Q0 Q0 Q0 Q0 ?_
   refine WL.skip (d := 19) Q0 Q0 Q0 Q0 ?_
   refine WL.p Q0 (Yl.pickF Q0 Q0) ?_
   refine Qm ?_
   refine WL.skip (d := 25) Q0 Q0 Q0 Q0 ?_
   refine WL.skip (d := 25) Q0 Q0 Q0 Q0 ?_
   refine WL.skip (d := 25) Q0 Q0 Q0 Q0 ?_
   refine WL.p Q0 (Yl.pickF Q0 Q0) ?_
   refine Qm ?_
   refine WL.skip (d := 30) Q0 Q0 Q0 Q0 ?_
   refine WL.p Q0 (Yl.pickF Q0 Q0) ?_
   refine Qa ?_
   refine WL.next ?_
   refine WC.ret ?_
   refine fin1' rfl Q0 ?_
   refine RetP.mk hs ?_
   clear hs hb h_x
   try simp only [← inR_true] at *
   try simp only [← inR_false] at *
   simp_all [TResponse.isv]
   try (intro hh; omega)
 ·
  replace h1 := inR_false.1 h1
  refine WL.skip (d := 14) Q0 Q0 Q0 Q0 ?_
  refine WL.skip (d := 14) Q0 Q0 Q0 Q0 ?_
  refine WL.skip (d := 14) Q0 Q0 Q0 Q0 ?_
  refine WL.p Q0 (Yl.pickF Q0 Q0) ?_
  refine Qm ?_
  refine WL.skip (d := 19) Q0 Q0 Q0 Q0 ?_
  refine WL.skip (d := 19) Q0 Q0 Q0 Q0 ?_
  refine WL.skip (d := 19) Q0 Q0 Q0 Q0 ?_
  refine WL.skip (d := 19) Q0 Q0 Q0 Q0 ?_
  refine WL.p Q0 (Yl.pickF Q0 Q0) ?_
  refine Qm ?_
  refine WL.skip (d := 25) Q0 Q0 Q0 Q0 ?_
  refine WL.skip (d := 25) Q0 Q0 Q0 Q0 ?_
  refine WL.skip (d := 25) Q0 Q0 Q0 Q0 ?_
  refine WL.p Q0 (Yl.pickF Q0 Q0) ?_
  refine Qm ?_
  refine WL.skip (d := 30) Q0 Q0 Q0 Q0 ?_
  refine WL.p Q0 (Yl.pickF Q0 Q0) ?_
  refine Qa ?_
  refine WL.next ?_
  refine WC.ret ?_
  refine fin1' rfl Q0 ?_
  refine RetP.mk hs ?_
  clear hs hb h_x
  try simp only [← inR_true] at *
  try simp only [← inR_false] at *
  simp_all [TResponse.isv]
  try (intro hh; omega)

theorem c_spec_CheckDigest (body : Str) (value : Str) (w : World) (h_body : Ph.ok w body) (hb : body.length ≤ 1048576) : Calls Tryz.prog 164 [S body, S value].toArray w (RetP w (Bo (checkDigest body value))) := by
 refine enterN 14 Tryz.func164 rfl rfl rfl ?_
 have hs := Sat.start w
 refine WC.seq ?_
 refine Qa ?_
 refine WL.next ?_
 refine WC.seq ?_
 refine Qm ?_
 refine WL.p Q0 (Yl.eqs Q0 Q0) ?_
 refine Qm ?_
 refine WL.split (d := 7) Q0 (fun h1 => ?_) (fun h1 => ?_)
 ·
  replace h1 := of_decide_eq_true h1
  refine WL.skip (d := 7) Q0 Q0 Q0 Q0 ?_
  refine WL.skip (d := 7) Q0 Q0 Q0 Q0 ?_
  refine WL.skip (d := 7) Q0 Q0 Q0 Q0 ?_
  refine WL.skip (d := 7) Q0 Q0 Q0 Q0 ?_
  refine WL.skip (d := 7) Q0 Q0 Q0 Q0 ?_
  refine WL.p Q0 (Yl.pickT Q0 Q0) ?_
  refine Qa ?_
  refine WL.next ?_
  refine WC.ret ?_
  refine fin1' rfl Q0 ?_
  refine RetP.mk hs ?_
  simp_all [checkDigest]
 ·
  replace h1 := of_decide_eq_false h1
  refine WL.run (d := 7) Q0 Q0 ?_
  refine Qm ?_
  refine WL.run (d := 7) Q0 Q0 ?_
  refine Qm ?_
  refine WL.run (d := 7) Q0 Q0 ?_
  refine WL.callp hs Q0 (Yc.func Q0 fn69) (c_spec_DigestOf _ _ (Ph.old h_body hs) Q10) ?_
  clear hs; intro w hs
  refine WL.run (d := 7) Q0 Q0 ?_
  refine WL.callp hs Q0 (Yc.func Q0 fn68) (c_spec_FormatInt _ _ (digestN_wf _)) ?_
  clear hs; intro w hs
  refine WL.run (d := 7) Q0 Q0 ?_
  refine WL.p Q0 (Yl.eqs Q0 Q0) ?_
  refine WL.p Q0 (Yl.pickF Q0 Q0) ?_
  refine Qa ?_
  refine WL.next ?_
  refine WC.ret ?_
  refine fin1' rfl Q0 ?_
  refine RetP.mk hs ?_
  simp_all [checkDigest]

theorem c_spec_CheckResponse (p : PPolicy) (r : TRequest) (x : TResponse) (w : World) (h_p : Ph.ok w p) (h_r : Ph.ok w r) (h_x : Ph.ok w x) (hb : x.policy.length ≤ 1048576) (hb2 : x.body.length ≤ 1048576) : Calls Tryz.prog 63 [.agg #[Bo p.set, Sl.v p.scripts, Sl.v p.styles, Sl.v p.images, S p.nonce], .agg #[I r.kind, S r.to.host, S r.to.path, S r.frm, S r.digest], .agg #[I x.status, I x.kind, S x.body, I x.age, Bo x.shares, S x.policy]].toArray w (RetP w (I (checkResp p.lg r x))) := by
 refine enterN 56 Tryz.func63 rfl rfl rfl ?_
 have hs := Sat.start w
 refine WC.seq ?_
 refine WL.r Q0 (Yr.box hs Q0 Q0) ?_
 clear hs; rintro _ w ⟨b1, rfl, hb, hs⟩; clear hb
 refine WL.r Q0 (Yr.box hs Q0 Q0) ?_
 clear hs; rintro _ w ⟨b2, rfl, hb, hs⟩; clear hb
 refine WL.r Q0 (Yr.box hs Q0 Q0) ?_
 clear hs; rintro _ w ⟨b3, rfl, hb, hs⟩; clear hb
 refine Qa ?_
 refine WL.next ?_
 refine WC.seq' ?_
 refine WC.block ?_
 refine WC.seq ?_
 refine WL.p Q0 (Yl.loadAB agg108 Q0 hs Q1 Q0 Q0) ?_
 refine WL.p Q0 (Yl.loadAB agg110 Q0 hs Q1 Q0 Q0) ?_
 refine WL.callp hs Q0 (Yc.func Q0 fn162) (c_spec_CheckRequest _ _ _ (Ph.old h_p hs) (Ph.old h_r hs)) ?_
 clear hs; intro w hs
 refine WL.p Q0 (Yl.nei Q0 Q0) ?_
 refine Qa ?_
 refine WL.next ?_
 refine WC.condS Q0 (fun h1 => ?_) (fun h1 => ?_)
 ·
  replace h1 := not_eq_true h1
  replace h1 := of_decide_eq_false h1
  refine WC.seq ?_
  refine Qa ?_
  refine WL.next ?_
  refine WC.ret ?_
  refine At.blockret ?_
  refine At.thenret ?_
  refine fin1' rfl Q0 ?_
  refine RetP.mk hs ?_
  have e9_ := checkReq_or p.lg r
  simp_all [checkResp]
 ·
  replace h1 := not_eq_false h1
  replace h1 := of_decide_eq_true h1
  refine WC.seq ?_
  refine WL.p Q0 (Yl.loadAB agg72 Q0 hs Q1 Q0 Q0) ?_
  refine WL.callp hs Q0 (Yc.func Q0 fn163) (c_spec_IsResponse _ _ (Ph.old h_x hs) (by exact hb)) ?_
  clear hs; intro w hs
  refine WL.p Q0 (Yl.not Q0) ?_
  refine Qm ?_
  refine WL.split (d := 16) Q0 (fun h2 => ?_) (fun h2 => ?_)
  ·
   replace h2 := not_eq_true h2
   refine WL.skip (d := 16) Q0 Q0 Q0 Q0 ?_
   refine WL.skip (d := 16) Q0 Q0 Q0 Q0 ?_
   refine WL.skip (d := 16) Q0 Q0 Q0 Q0 ?_
   refine WL.p Q0 (Yl.pickT Q0 Q0) ?_
   refine Qa ?_
   refine WL.next ?_
   refine WC.condT Q0 ?_
   refine WC.seq ?_
   refine Qa ?_
   refine WL.next ?_
   refine WC.ret ?_
   refine At.blockret ?_
   refine At.thenret ?_
   refine fin1' rfl Q0 ?_
   refine RetP.mk hs ?_
   have e9_ := checkReq_or p.lg r
   simp_all [checkResp]
  ·
   replace h2 := not_eq_false h2
   refine WL.run (d := 16) Q0 Q0 ?_
   refine WL.p Q0 (Yl.fieldAddr fa72_0 Q0) ?_
   refine WL.run (d := 16) Q0 Q0 ?_
   refine WL.p Q0 (Yl.loadB sca3 Q0 hs Q1 Q0) ?_
   refine WL.run (d := 16) Q0 Q0 ?_
   refine WL.p Q0 (Yl.nei Q0 Q0) ?_
   refine WL.p Q0 (Yl.pickF Q0 Q0) ?_
   refine Qa ?_
   refine WL.next ?_
   refine WC.condS Q0 (fun h3 => ?_) (fun h3 => ?_)
   ·
    replace h3 := not_eq_true h3
    replace h3 := of_decide_eq_false h3
    refine WC.seq ?_
    refine Qa ?_
    refine WL.next ?_
    refine WC.ret ?_
    refine At.blockret ?_
    refine At.thenret ?_
    refine fin1' rfl Q0 ?_
    refine RetP.mk hs ?_
    have e9_ := checkReq_or p.lg r
    simp_all [checkResp]
   ·
    replace h3 := not_eq_false h3
    replace h3 := of_decide_eq_true h3
    refine WC.seq ?_
    refine WL.p Q0 (Yl.loadAB agg72 Q0 hs Q1 Q0 Q0) ?_
    refine WL.p Q0 (Yl.fieldAddr fa110_0 Q0) ?_
    refine WL.p Q0 (Yl.loadB sca3 Q0 hs Q1 Q0) ?_
    refine WL.callp hs Q0 (Yc.func Q0 fn67) (c_spec_FitsKind _ _ _) ?_
    clear hs; intro w hs
    refine WL.p Q0 (Yl.not Q0) ?_
    refine Qa ?_
    refine WL.next ?_
    refine WC.condS Q0 (fun h4 => ?_) (fun h4 => ?_)
    ·
     replace h4 := not_eq_true h4
     refine WC.seq ?_
     refine Qa ?_
     refine WL.next ?_
     refine WC.ret ?_
     refine At.blockret ?_
     refine At.thenret ?_
     refine fin1' rfl Q0 ?_
     refine RetP.mk hs ?_
     have e9_ := checkReq_or p.lg r
     simp_all [checkResp]
    ·
     replace h4 := not_eq_false h4
     refine WC.seq ?_
     refine WL.p Q0 (Yl.fieldAddr fa110_2 Q0) ?_
     refine WL.p Q0 (Yl.loadB sca9 Q0 hs Q1 Q0) ?_
     refine WL.p Q0 (Yl.fieldAddr fa110_1 Q0) ?_
     refine WL.p Q0 (Yl.fieldAddr fa39_0 Q0) ?_
     refine WL.p Q0 (Yl.loadB sca9 Q0 hs Q1 Q0) ?_
     refine WL.p Q0 (Yl.nes Q0 Q0) ?_
     refine Qm ?_
     refine WL.split (d := 34) Q0 (fun h5 => ?_) (fun h5 => ?_)
     ·
      replace h5 := not_eq_true h5
      replace h5 := of_decide_eq_false h5
      refine WL.run (d := 34) Q0 Q0 ?_
      refine WL.p Q0 (Yl.fieldAddr fa72_4 Q0) ?_
      refine WL.run (d := 34) Q0 Q0 ?_
      refine WL.p Q0 (Yl.loadB sca4 Q0 hs Q1 Q0) ?_
      refine WL.run (d := 34) Q0 Q0 ?_
      refine WL.p Q0 (Yl.not Q0) ?_
      refine WL.p Q0 (Yl.pickT Q0 Q0) ?_
      refine Qm ?_
      refine WL.split (d := 39) Q0 (fun h6 => ?_) (fun h6 => ?_)
      ·
       replace h6 := not_eq_true h6
       refine WL.run (d := 39) Q0 Q0 ?_
       refine WL.p Q0 (Yl.fieldAddr fa110_0 Q0) ?_
       refine WL.run (d := 39) Q0 Q0 ?_
       refine WL.p Q0 (Yl.loadB sca3 Q0 hs Q1 Q0) ?_
       refine WL.run (d := 39) Q0 Q0 ?_
       refine WL.p Q0 (Yl.eqi Q0 Q0) ?_
       refine WL.run (d := 39) Q0 Q0 ?_
       refine Qm ?_
       refine WL.split (d := 43) Q0 (fun h7 => ?_) (fun h7 => ?_)
       ·
        replace h7 := of_decide_eq_true h7
        refine WL.skip (d := 43) Q0 Q0 Q0 Q0 ?_
        refine WL.skip (d := 43) Q0 Q0 Q0 Q0 ?_
        refine WL.skip (d := 43) Q0 Q0 Q0 Q0 ?_
        refine WL.run (d := 39) Q0 Q0 ?_
        refine WL.p Q0 (Yl.pickT Q0 Q0) ?_
        refine WL.p Q0 (Yl.pickT Q0 Q0) ?_
        refine Qa ?_
        refine WL.next ?_
        refine WC.condT Q0 ?_
        refine WC.seq ?_
        refine Qa ?_
        refine WL.next ?_
        refine WC.ret ?_
        refine At.blockret ?_
        refine At.thenret ?_
        refine fin1' rfl Q0 ?_
        refine RetP.mk hs ?_
        have e9_ := checkReq_or p.lg r
        simp_all [checkResp]
       ·
        replace h7 := of_decide_eq_false h7
        refine WL.run (d := 43) Q0 Q0 ?_
        refine WL.p Q0 (Yl.fieldAddr fa110_3 Q0) ?_
        refine WL.run (d := 43) Q0 Q0 ?_
        refine WL.p Q0 (Yl.loadB sca9 Q0 hs Q1 Q0) ?_
        refine WL.run (d := 43) Q0 Q0 ?_
        refine WL.p Q0 (Yl.nes Q0 Q0) ?_
        refine WL.run (d := 39) Q0 Q0 ?_
        refine WL.p Q0 (Yl.pickF Q0 Q0) ?_
        refine WL.p Q0 (Yl.pickT Q0 Q0) ?_
        refine Qa ?_
        refine WL.next ?_
        refine WC.condS Q0 (fun h8 => ?_) (fun h8 => ?_)
        ·
         replace h8 := not_eq_true h8
         replace h8 := of_decide_eq_false h8
         refine WC.seq ?_
         refine Qa ?_
         refine WL.next ?_
         refine WC.ret ?_
         refine At.blockret ?_
         refine At.thenret ?_
         refine fin1' rfl Q0 ?_
         refine RetP.mk hs ?_
         have e9_ := checkReq_or p.lg r
         simp_all [checkResp]
        ·
         replace h8 := not_eq_false h8
         replace h8 := of_decide_eq_true h8
         refine WC.seq ?_
         refine WL.p Q0 (Yl.fieldAddr fa72_2 Q0) ?_
         refine WL.p Q0 (Yl.loadB sca9 Q0 hs Q1 Q0) ?_
         refine WL.p Q0 (Yl.fieldAddr fa110_3 Q0) ?_
         refine WL.p Q0 (Yl.loadB sca9 Q0 hs Q1 Q0) ?_
         refine WL.callp hs Q0 (Yc.func Q0 fn164) (c_spec_CheckDigest _ _ _ (Ph.old h_x.body hs) (by exact hb2)) ?_
         clear hs; intro w hs
         refine WL.p Q0 (Yl.not Q0) ?_
         refine Qa ?_
         refine WL.next ?_
         refine WC.condS Q0 (fun h9 => ?_) (fun h9 => ?_)
         ·
          replace h9 := not_eq_true h9
          refine WC.seq ?_
          refine Qa ?_
          refine WL.next ?_
          refine WC.ret ?_
          refine At.blockret ?_
          refine At.thenret ?_
          refine fin1' rfl Q0 ?_
          refine RetP.mk hs ?_
          have e9_ := checkReq_or p.lg r
          simp_all [checkResp]
         ·
          replace h9 := not_eq_false h9
          refine WC.skip ?_
          refine At.blocknormal ?_
          refine At.then_ ?_
          refine WC.seq ?_
          refine Qa ?_
          refine WL.next ?_
          refine WC.ret ?_
          refine fin1' rfl Q0 ?_
          refine RetP.mk hs ?_
          have e9_ := checkReq_or p.lg r
          simp_all [checkResp]
      ·
       replace h6 := not_eq_false h6
       refine WL.skip (d := 39) Q0 Q0 Q0 Q0 ?_
       refine WL.skip (d := 39) Q0 Q0 Q0 Q0 ?_
       refine WL.skip (d := 39) Q0 Q0 Q0 Q0 ?_
       refine WL.skip (d := 39) Q0 Q0 Q0 Q0 ?_
       refine WL.skipU (d := 43) Q0 Q0 Q0 ?_
       refine WL.skipU (d := 43) Q0 Q0 Q0 ?_
       refine WL.skipU (d := 43) Q0 Q0 Q0 ?_
       refine WL.skip (d := 39) Q0 Q0 Q0 Q0 ?_
       refine WL.p Q0 (Yl.pickF Q0 Q0) ?_
       refine Qa ?_
       refine WL.next ?_
       refine WC.condF Q0 ?_
       refine WC.seq ?_
       refine WL.p Q0 (Yl.fieldAddr fa72_2 Q0) ?_
       refine WL.p Q0 (Yl.loadB sca9 Q0 hs Q1 Q0) ?_
       refine WL.p Q0 (Yl.fieldAddr fa110_3 Q0) ?_
       refine WL.p Q0 (Yl.loadB sca9 Q0 hs Q1 Q0) ?_
       refine WL.callp hs Q0 (Yc.func Q0 fn164) (c_spec_CheckDigest _ _ _ (Ph.old h_x.body hs) (by exact hb2)) ?_
       clear hs; intro w hs
       refine WL.p Q0 (Yl.not Q0) ?_
       refine Qa ?_
       refine WL.next ?_
       refine WC.condS Q0 (fun h7 => ?_) (fun h7 => ?_)
       ·
        replace h7 := not_eq_true h7
        refine WC.seq ?_
        refine Qa ?_
        refine WL.next ?_
        refine WC.ret ?_
        refine At.blockret ?_
        refine At.thenret ?_
        refine fin1' rfl Q0 ?_
        refine RetP.mk hs ?_
        have e9_ := checkReq_or p.lg r
        simp_all [checkResp]
       ·
        replace h7 := not_eq_false h7
        refine WC.skip ?_
        refine At.blocknormal ?_
        refine At.then_ ?_
        refine WC.seq ?_
        refine Qa ?_
        refine WL.next ?_
        refine WC.ret ?_
        refine fin1' rfl Q0 ?_
        refine RetP.mk hs ?_
        have e9_ := checkReq_or p.lg r
        simp_all [checkResp]
     ·
      replace h5 := not_eq_false h5
      replace h5 := of_decide_eq_true h5
      refine WL.skip (d := 34) Q0 Q0 Q0 Q0 ?_
      refine WL.skip (d := 34) Q0 Q0 Q0 Q0 ?_
      refine WL.skip (d := 34) Q0 Q0 Q0 Q0 ?_
      refine WL.p Q0 (Yl.pickF Q0 Q0) ?_
      refine Qm ?_
      refine WL.skip (d := 39) Q0 Q0 Q0 Q0 ?_
      refine WL.skip (d := 39) Q0 Q0 Q0 Q0 ?_
      refine WL.skip (d := 39) Q0 Q0 Q0 Q0 ?_
      refine WL.skip (d := 39) Q0 Q0 Q0 Q0 ?_
      refine WL.skipU (d := 43) Q0 Q0 Q0 ?_
      refine WL.skipU (d := 43) Q0 Q0 Q0 ?_
      refine WL.skipU (d := 43) Q0 Q0 Q0 ?_
      refine WL.skip (d := 39) Q0 Q0 Q0 Q0 ?_
      refine WL.p Q0 (Yl.pickF Q0 Q0) ?_
      refine Qa ?_
      refine WL.next ?_
      refine WC.condF Q0 ?_
      refine WC.seq ?_
      refine WL.p Q0 (Yl.fieldAddr fa72_2 Q0) ?_
      refine WL.p Q0 (Yl.loadB sca9 Q0 hs Q1 Q0) ?_
      refine WL.p Q0 (Yl.fieldAddr fa110_3 Q0) ?_
      refine WL.p Q0 (Yl.loadB sca9 Q0 hs Q1 Q0) ?_
      refine WL.callp hs Q0 (Yc.func Q0 fn164) (c_spec_CheckDigest _ _ _ (Ph.old h_x.body hs) (by exact hb2)) ?_
      clear hs; intro w hs
      refine WL.p Q0 (Yl.not Q0) ?_
      refine Qa ?_
      refine WL.next ?_
      refine WC.condS Q0 (fun h6 => ?_) (fun h6 => ?_)
      ·
       replace h6 := not_eq_true h6
       refine WC.seq ?_
       refine Qa ?_
       refine WL.next ?_
       refine WC.ret ?_
       refine At.blockret ?_
       refine At.thenret ?_
       refine fin1' rfl Q0 ?_
       refine RetP.mk hs ?_
       have e9_ := checkReq_or p.lg r
       simp_all [checkResp]
      ·
       replace h6 := not_eq_false h6
       refine WC.skip ?_
       refine At.blocknormal ?_
       refine At.then_ ?_
       refine WC.seq ?_
       refine Qa ?_
       refine WL.next ?_
       refine WC.ret ?_
       refine fin1' rfl Q0 ?_
       refine RetP.mk hs ?_
       have e9_ := checkReq_or p.lg r
       simp_all [checkResp]

theorem c_impl_VerdictName (code : Int) (w : World)   : Calls Tryz.prog 64 [I code].toArray w (RetP w (S (verdictName code))) := by
 refine enterN 11 Tryz.func64 rfl rfl rfl ?_
 have hs := Sat.start w
 refine WC.seq ?_
 refine Qa ?_
 refine WL.next ?_
 refine WC.seq' ?_
 refine WC.seq ?_
 refine Qm ?_
 refine WL.callp hs Q0 (Yc.func Q0 fn90) (c_impl_InRange _ _ _ _) ?_
 clear hs; intro w hs
 refine WL.p Q0 (Yl.not Q0) ?_
 refine WL.next ?_
 refine WC.condS Q0 (fun h1 => ?_) (fun h1 => ?_)
 ·
  replace h1 := not_eq_true h1
  replace h1 := inR_false.1 h1
  refine WC.seq ?_
  refine Qa ?_
  refine WL.next ?_
  refine WC.ret ?_
  refine At.thenret ?_
  refine fin1' rfl Q0 ?_
  refine RetP.mk hs ?_
  rw [verdictName_out Q7]
 ·
  replace h1 := not_eq_false h1
  replace h1 := inR_true.1 h1
  refine WC.skipn ?_
  refine WC.seq ?_
  refine WL.r Q0 (Yr.buildSlice hs sll34 Q0 Q0 Q0 Q4 Q0) ?_
  clear hs; rintro _ w ⟨b1, rfl, hb, hs⟩; clear hb
  refine Qm ?_
  refine WL.p Q0 (Yl.sub_ Q0 Q0 Q7) ?_
  refine WL.p Q0 (Yl.indexB (i := (code - 1).toNat) slt34 Q0 Q0 (by first | rfl | omega) (by first | decide | omega)) ?_
  refine WL.p Q0 (Yl.loadB sca9 Q0 hs Q1 (show _ = some (S (verdictName code)) from by rcases (by omega : code = 1 ∨ code = 2 ∨ code = 3 ∨ code = 4 ∨ code = 5 ∨ code = 6) with rfl | rfl | rfl | rfl | rfl | rfl <;> rfl)) ?_
  refine Qa ?_
  refine WL.next ?_
  refine WC.ret ?_
  refine fin1' rfl Q0 ?_
  refine RetP.mk hs ?_
  rfl

theorem c_spec_DrawSameRequest (code : (Sl UInt8)) (w : World) (h_code : Ph.ok w code)  : Calls Tryz.prog 70 [Sl.v code].toArray w (Ret w (fun v w' => ∃ (a : TRequest) (b : TRequest), v = .tuple #[.agg (Ph.enc a).toArray, .agg (Ph.enc b).toArray] ∧ (Ph.ok w' a ∧ Ph.ok w' b) ∧ (True) ∧ True)) := by
 refine enterN 23 Tryz.func70 rfl rfl rfl ?_
 have hs := Sat.start w
 refine WC.seq ?_
 refine WL.r Q0 (Yr.alloc hs zt110) ?_
 clear hs; rintro _ w ⟨b1, rfl, hb, hs⟩; clear hb
 refine WL.r Q0 (Yr.alloc hs zt110) ?_
 clear hs; rintro _ w ⟨b2, rfl, hb, hs⟩; clear hb
 refine WL.next ?_
 refine WC.seq ?_
 refine Qm ?_
 refine WL.calln hs Q0 (Yc.func Q0 fn83) (c_spec_l1New _ _ (Ph.old h_code hs)) ?_
 clear hs; intro c3 w hs
 refine Qa ?_
 refine WL.next ?_
 refine WC.seq ?_
 refine Qm ?_
 refine WL.calld hs (T := 205) (b := code) (c := c3) Q2 Q0 (Yc.func Q0 fn157) (c_spec_l11Any c3 code _ (hs.cur Q1) (Apart.new (by first | assumption) hs Q1)) ?_
 clear hs; intro v w ho hR hs
 obtain ⟨x4, rfl, hokx4, hx4, hf4⟩ := hR
 clear ho hf4
 refine WL.r Q0 (Yr.alloc hs zt110) ?_
 clear hs; rintro _ w ⟨b5, rfl, hb, hs⟩; clear hb
 refine WL.s (Yr.storeB hs Q0 Q0 Q0 Q5 Q3 Q0 (by exact szf110)) ?_
 clear hs; rintro _ w hs
 refine WL.next ?_
 refine WC.seq ?_
 refine Qm ?_
 refine WL.calld hs (T := 205) (b := code) (c := c3) Q2 Q0 (Yc.func Q0 fn157) (c_spec_l11Any c3 code _ (hs.cur Q1) (Apart.new (by first | assumption) hs Q1)) ?_
 clear hs; intro v w ho hR hs
 obtain ⟨x6, rfl, hokx6, hx6, hf6⟩ := hR
 clear ho hf6
 refine WL.r Q0 (Yr.alloc hs zt110) ?_
 clear hs; rintro _ w ⟨b7, rfl, hb, hs⟩; clear hb
 refine WL.s (Yr.storeB hs Q0 Q0 Q0 Q5 Q3 Q0 (by exact szf110)) ?_
 clear hs; rintro _ w hs
 refine WL.next ?_
 refine WC.seq' ?_
 refine WC.seq ?_
 refine Qm ?_
 refine WL.calld hs (T := 205) (b := code) (c := c3) Q2 Q0 (Yc.func Q0 fn100) (c_spec_l1Once c3 code _ _ (hs.cur Q1) (Apart.new (by first | assumption) hs Q1)) ?_
 clear hs; intro v w ho hR hs
 obtain ⟨x8, rfl, _, hx8, hf8⟩ := hR
 clear ho hf8
 refine WL.next ?_
 refine WC.condS Q0 (fun h1 => ?_) (fun h1 => ?_)
 ·
  refine WC.seq ?_
  refine WL.p Q0 (Yl.fieldAddr fa110_1 Q0) ?_
  refine WL.p Q0 (Yl.loadAB agg39 Q0 hs Q1 Q0 Q0) ?_
  refine WL.p Q0 (Yl.fieldAddr fa110_1 Q0) ?_
  refine WL.s (Yr.storeB hs Q0 Q0 Q0 Q5 Q3 Q0 (by exact szf39)) ?_
  clear hs; rintro _ w hs
  refine WL.next ?_
  refine WC.region ?_
  refine WL.p Q0 (Yl.fieldAddr fa110_2 Q0) ?_
  refine WL.p Q0 (Yl.loadB sca9 Q0 hs Q1 Q0) ?_
  refine WL.p Q0 (Yl.fieldAddr fa110_2 Q0) ?_
  refine WL.s (Yr.storeB hs Q0 Q0 Q0 Q5 Q3 Q0 (by exact szf9)) ?_
  clear hs; rintro _ w hs
  refine WL.nil ?_
  refine At.then_ ?_
  refine WC.anynX (K := [box b1 _ _, box b2 _ _]) mixed hs Q2 ?_
  clear hs; intro w hs
  refine WA.p (i := 0) Q0 Q6 Q6 Q6 Q0 (hs.only Q2) (fun w hs => Yl.loadAB agg110 Q0 hs Q1 Q0 Q0) ?_
  refine WA.p (i := 1) Q0 Q6 Q6 Q6 Q0 (hs.only Q2) (fun w hs => Yl.loadAB agg110 Q0 hs Q1 Q0 Q0) ?_
  refine WA.s (i := 2) Q6 Q0 (Yr.storeB hs Q0 Q0 Q0 Q5 Q3 Q0 (by exact szf110)) (by rintro _ w hs; exact hs.only Q2) ?_
  clear hs; rintro _ w hs
  refine WA.s (i := 3) Q6 Q0 (Yr.storeB hs Q0 Q0 Q0 Q5 Q3 Q0 (by exact szf110)) (by rintro _ w hs; exact hs.only Q2) ?_
  clear hs; rintro _ w hs
  refine WA.donen Q6 ?_
  refine WC.ret ?_
  refine fin2cc rfl agg110 agg110 Q0 Q0 hs Q1 Q1 Q0 Q0 ?_
  refine Ret.mk hs ?_
  refine ⟨(⟨x4.kind, (⟨x4.to.host, x4.to.path⟩ : TAddr), x4.frm, x4.digest⟩ : TRequest), (⟨x6.kind, (⟨x4.to.host, x4.to.path⟩ : TAddr), x4.frm, x6.digest⟩ : TRequest), rfl, ⟨⟨(by first | exact (Flat.any hokx4).kind | trivial | assumption | exact Flat.any (by assumption) | exact ⟨by omega, by omega⟩ | (show WfS _; unfold WfS; omega) | (show WfS _; unfold WfS; simp only [List.length_append, List.length_cons, List.length_nil] at *; omega) | (refine Ph.old ?_ hs; assumption)), ⟨(by first | exact (Flat.any hokx4).to.host | trivial | assumption | exact Flat.any (by assumption) | exact ⟨by omega, by omega⟩ | (show WfS _; unfold WfS; omega) | (show WfS _; unfold WfS; simp only [List.length_append, List.length_cons, List.length_nil] at *; omega) | (refine Ph.old ?_ hs; assumption)), (by first | exact (Flat.any hokx4).to.path | trivial | assumption | exact Flat.any (by assumption) | exact ⟨by omega, by omega⟩ | (show WfS _; unfold WfS; omega) | (show WfS _; unfold WfS; simp only [List.length_append, List.length_cons, List.length_nil] at *; omega) | (refine Ph.old ?_ hs; assumption))⟩, (by first | exact (Flat.any hokx4).frm | trivial | assumption | exact Flat.any (by assumption) | exact ⟨by omega, by omega⟩ | (show WfS _; unfold WfS; omega) | (show WfS _; unfold WfS; simp only [List.length_append, List.length_cons, List.length_nil] at *; omega) | (refine Ph.old ?_ hs; assumption)), (by first | exact (Flat.any hokx4).digest | trivial | assumption | exact Flat.any (by assumption) | exact ⟨by omega, by omega⟩ | (show WfS _; unfold WfS; omega) | (show WfS _; unfold WfS; simp only [List.length_append, List.length_cons, List.length_nil] at *; omega) | (refine Ph.old ?_ hs; assumption))⟩, ⟨(by first | exact (Flat.any hokx6).kind | trivial | assumption | exact Flat.any (by assumption) | exact ⟨by omega, by omega⟩ | (show WfS _; unfold WfS; omega) | (show WfS _; unfold WfS; simp only [List.length_append, List.length_cons, List.length_nil] at *; omega) | (refine Ph.old ?_ hs; assumption)), ⟨(by first | exact (Flat.any hokx4).to.host | trivial | assumption | exact Flat.any (by assumption) | exact ⟨by omega, by omega⟩ | (show WfS _; unfold WfS; omega) | (show WfS _; unfold WfS; simp only [List.length_append, List.length_cons, List.length_nil] at *; omega) | (refine Ph.old ?_ hs; assumption)), (by first | exact (Flat.any hokx4).to.path | trivial | assumption | exact Flat.any (by assumption) | exact ⟨by omega, by omega⟩ | (show WfS _; unfold WfS; omega) | (show WfS _; unfold WfS; simp only [List.length_append, List.length_cons, List.length_nil] at *; omega) | (refine Ph.old ?_ hs; assumption))⟩, (by first | exact (Flat.any hokx4).frm | trivial | assumption | exact Flat.any (by assumption) | exact ⟨by omega, by omega⟩ | (show WfS _; unfold WfS; omega) | (show WfS _; unfold WfS; simp only [List.length_append, List.length_cons, List.length_nil] at *; omega) | (refine Ph.old ?_ hs; assumption)), (by first | exact (Flat.any hokx6).digest | trivial | assumption | exact Flat.any (by assumption) | exact ⟨by omega, by omega⟩ | (show WfS _; unfold WfS; omega) | (show WfS _; unfold WfS; simp only [List.length_append, List.length_cons, List.length_nil] at *; omega) | (refine Ph.old ?_ hs; assumption))⟩⟩, ?_, ?_⟩
  ·
   trivial
  ·
   trivial
 ·
  refine WC.skipn ?_
  refine WC.anynX (K := [box b1 _ _, box b2 _ _]) mixed hs Q2 ?_
  clear hs; intro w hs
  refine WA.p (i := 0) Q0 Q6 Q6 Q6 Q0 (hs.only Q2) (fun w hs => Yl.loadAB agg110 Q0 hs Q1 Q0 Q0) ?_
  refine WA.p (i := 1) Q0 Q6 Q6 Q6 Q0 (hs.only Q2) (fun w hs => Yl.loadAB agg110 Q0 hs Q1 Q0 Q0) ?_
  refine WA.s (i := 2) Q6 Q0 (Yr.storeB hs Q0 Q0 Q0 Q5 Q3 Q0 (by exact szf110)) (by rintro _ w hs; exact hs.only Q2) ?_
  clear hs; rintro _ w hs
  refine WA.s (i := 3) Q6 Q0 (Yr.storeB hs Q0 Q0 Q0 Q5 Q3 Q0 (by exact szf110)) (by rintro _ w hs; exact hs.only Q2) ?_
  clear hs; rintro _ w hs
  refine WA.donen Q6 ?_
  refine WC.ret ?_
  refine fin2cc rfl agg110 agg110 Q0 Q0 hs Q1 Q1 Q0 Q0 ?_
  refine Ret.mk hs ?_
  refine ⟨(⟨x4.kind, (⟨x4.to.host, x4.to.path⟩ : TAddr), x4.frm, x4.digest⟩ : TRequest), (⟨x6.kind, (⟨x6.to.host, x6.to.path⟩ : TAddr), x6.frm, x6.digest⟩ : TRequest), rfl, ⟨⟨(by first | exact (Flat.any hokx4).kind | trivial | assumption | exact Flat.any (by assumption) | exact ⟨by omega, by omega⟩ | (show WfS _; unfold WfS; omega) | (show WfS _; unfold WfS; simp only [List.length_append, List.length_cons, List.length_nil] at *; omega) | (refine Ph.old ?_ hs; assumption)), ⟨(by first | exact (Flat.any hokx4).to.host | trivial | assumption | exact Flat.any (by assumption) | exact ⟨by omega, by omega⟩ | (show WfS _; unfold WfS; omega) | (show WfS _; unfold WfS; simp only [List.length_append, List.length_cons, List.length_nil] at *; omega) | (refine Ph.old ?_ hs; assumption)), (by first | exact (Flat.any hokx4).to.path | trivial | assumption | exact Flat.any (by assumption) | exact ⟨by omega, by omega⟩ | (show WfS _; unfold WfS; omega) | (show WfS _; unfold WfS; simp only [List.length_append, List.length_cons, List.length_nil] at *; omega) | (refine Ph.old ?_ hs; assumption))⟩, (by first | exact (Flat.any hokx4).frm | trivial | assumption | exact Flat.any (by assumption) | exact ⟨by omega, by omega⟩ | (show WfS _; unfold WfS; omega) | (show WfS _; unfold WfS; simp only [List.length_append, List.length_cons, List.length_nil] at *; omega) | (refine Ph.old ?_ hs; assumption)), (by first | exact (Flat.any hokx4).digest | trivial | assumption | exact Flat.any (by assumption) | exact ⟨by omega, by omega⟩ | (show WfS _; unfold WfS; omega) | (show WfS _; unfold WfS; simp only [List.length_append, List.length_cons, List.length_nil] at *; omega) | (refine Ph.old ?_ hs; assumption))⟩, ⟨(by first | exact (Flat.any hokx6).kind | trivial | assumption | exact Flat.any (by assumption) | exact ⟨by omega, by omega⟩ | (show WfS _; unfold WfS; omega) | (show WfS _; unfold WfS; simp only [List.length_append, List.length_cons, List.length_nil] at *; omega) | (refine Ph.old ?_ hs; assumption)), ⟨(by first | exact (Flat.any hokx6).to.host | trivial | assumption | exact Flat.any (by assumption) | exact ⟨by omega, by omega⟩ | (show WfS _; unfold WfS; omega) | (show WfS _; unfold WfS; simp only [List.length_append, List.length_cons, List.length_nil] at *; omega) | (refine Ph.old ?_ hs; assumption)), (by first | exact (Flat.any hokx6).to.path | trivial | assumption | exact Flat.any (by assumption) | exact ⟨by omega, by omega⟩ | (show WfS _; unfold WfS; omega) | (show WfS _; unfold WfS; simp only [List.length_append, List.length_cons, List.length_nil] at *; omega) | (refine Ph.old ?_ hs; assumption))⟩, (by first | exact (Flat.any hokx6).frm | trivial | assumption | exact Flat.any (by assumption) | exact ⟨by omega, by omega⟩ | (show WfS _; unfold WfS; omega) | (show WfS _; unfold WfS; simp only [List.length_append, List.length_cons, List.length_nil] at *; omega) | (refine Ph.old ?_ hs; assumption)), (by first | exact (Flat.any hokx6).digest | trivial | assumption | exact Flat.any (by assumption) | exact ⟨by omega, by omega⟩ | (show WfS _; unfold WfS; omega) | (show WfS _; unfold WfS; simp only [List.length_append, List.length_cons, List.length_nil] at *; omega) | (refine Ph.old ?_ hs; assumption))⟩⟩, ?_, ?_⟩
  ·
   trivial
  ·
   trivial

theorem c_spec_DrawIsRequest (code : (Sl UInt8)) (w : World) (h_code : Ph.ok w code)  : Calls Tryz.prog 169 [Sl.v code].toArray w (Ret w (fun v w' => ∃ (x : TRequest), v = .agg (Ph.enc x).toArray ∧ (Ph.ok w' x) ∧ (True) ∧ True)) := by
 refine enterN 8 Tryz.func169 rfl rfl rfl ?_
 have hs := Sat.start w
 refine WC.seq ?_
 refine WL.r Q0 (Yr.alloc hs zt110) ?_
 clear hs; rintro _ w ⟨b1, rfl, hb, hs⟩; clear hb
 refine WL.next ?_
 refine WC.seq ?_
 refine Qm ?_
 refine WL.calln hs Q0 (Yc.func Q0 fn83) (c_spec_l1New _ _ (Ph.old h_code hs)) ?_
 clear hs; intro c2 w hs
 refine Qa ?_
 refine WL.next ?_
 refine WC.seq ?_
 refine Qm ?_
 refine WL.calld hs (T := 205) (b := code) (c := c2) Q2 Q0 (Yc.func Q0 fn157) (c_spec_l11Any c2 code _ (hs.cur Q1) (Apart.new (by first | assumption) hs Q1)) ?_
 clear hs; intro v w ho hR hs
 obtain ⟨x3, rfl, hokx3, hx3, hf3⟩ := hR
 clear ho hf3
 refine WL.s (Yr.storeB hs Q0 Q0 Q0 Q5 Q3 Q0 (by exact szf110)) ?_
 clear hs; rintro _ w hs
 refine WL.next ?_
 refine WC.ret ?_
 refine fin1c rfl agg110 Q0 hs Q1 Q0 ?_
 refine Ret.mk hs ?_
 refine ⟨(⟨x3.kind, (⟨x3.to.host, x3.to.path⟩ : TAddr), x3.frm, x3.digest⟩ : TRequest), rfl, ⟨(by first | exact (Flat.any hokx3).kind | trivial | assumption | exact Flat.any (by assumption) | exact ⟨by omega, by omega⟩ | (show WfS _; unfold WfS; omega) | (show WfS _; unfold WfS; simp only [List.length_append, List.length_cons, List.length_nil] at *; omega) | (refine Ph.old ?_ hs; assumption)), ⟨(by first | exact (Flat.any hokx3).to.host | trivial | assumption | exact Flat.any (by assumption) | exact ⟨by omega, by omega⟩ | (show WfS _; unfold WfS; omega) | (show WfS _; unfold WfS; simp only [List.length_append, List.length_cons, List.length_nil] at *; omega) | (refine Ph.old ?_ hs; assumption)), (by first | exact (Flat.any hokx3).to.path | trivial | assumption | exact Flat.any (by assumption) | exact ⟨by omega, by omega⟩ | (show WfS _; unfold WfS; omega) | (show WfS _; unfold WfS; simp only [List.length_append, List.length_cons, List.length_nil] at *; omega) | (refine Ph.old ?_ hs; assumption))⟩, (by first | exact (Flat.any hokx3).frm | trivial | assumption | exact Flat.any (by assumption) | exact ⟨by omega, by omega⟩ | (show WfS _; unfold WfS; omega) | (show WfS _; unfold WfS; simp only [List.length_append, List.length_cons, List.length_nil] at *; omega) | (refine Ph.old ?_ hs; assumption)), (by first | exact (Flat.any hokx3).digest | trivial | assumption | exact Flat.any (by assumption) | exact ⟨by omega, by omega⟩ | (show WfS _; unfold WfS; omega) | (show WfS _; unfold WfS; simp only [List.length_append, List.length_cons, List.length_nil] at *; omega) | (refine Ph.old ?_ hs; assumption))⟩, ?_, ?_⟩
 ·
  trivial
 ·
  trivial

theorem c_spec_DrawCanGuess (code : (Sl UInt8)) (w : World) (h_code : Ph.ok w code)  : Calls Tryz.prog 71 [Sl.v code].toArray w (Ret w (fun v w' => ∃ (x : TRequest), v = .agg (Ph.enc x).toArray ∧ (Ph.ok w' x) ∧ (True) ∧ True)) := by
 refine enterN 5 Tryz.func71 rfl rfl rfl ?_
 have hs := Sat.start w
 refine WC.seq ?_
 refine WL.r Q0 (Yr.alloc hs zt110) ?_
 clear hs; rintro _ w ⟨b1, rfl, hb, hs⟩; clear hb
 refine WL.next ?_
 refine WC.seq ?_
 refine Qm ?_
 refine WL.callx hs Q0 (Yc.func Q0 fn169) (c_spec_DrawIsRequest _ _ (Ph.old h_code hs)) ?_
 clear hs; intro v w ho hR hs
 obtain ⟨x2, rfl, hokx2, hx2, hf2⟩ := hR
 clear ho hf2
 refine WL.s (Yr.storeB hs Q0 Q0 Q0 Q5 Q3 Q0 (by exact szf110)) ?_
 clear hs; rintro _ w hs
 refine WL.next ?_
 refine WC.ret ?_
 refine fin1c rfl agg110 Q0 hs Q1 Q0 ?_
 refine Ret.mk hs ?_
 refine ⟨(⟨x2.kind, (⟨x2.to.host, x2.to.path⟩ : TAddr), x2.frm, x2.digest⟩ : TRequest), rfl, ⟨(by first | exact (Flat.any hokx2).kind | trivial | assumption | exact Flat.any (by assumption) | exact ⟨by omega, by omega⟩ | (show WfS _; unfold WfS; omega) | (show WfS _; unfold WfS; simp only [List.length_append, List.length_cons, List.length_nil] at *; omega) | (refine Ph.old ?_ hs; assumption)), ⟨(by first | exact (Flat.any hokx2).to.host | trivial | assumption | exact Flat.any (by assumption) | exact ⟨by omega, by omega⟩ | (show WfS _; unfold WfS; omega) | (show WfS _; unfold WfS; simp only [List.length_append, List.length_cons, List.length_nil] at *; omega) | (refine Ph.old ?_ hs; assumption)), (by first | exact (Flat.any hokx2).to.path | trivial | assumption | exact Flat.any (by assumption) | exact ⟨by omega, by omega⟩ | (show WfS _; unfold WfS; omega) | (show WfS _; unfold WfS; simp only [List.length_append, List.length_cons, List.length_nil] at *; omega) | (refine Ph.old ?_ hs; assumption))⟩, (by first | exact (Flat.any hokx2).frm | trivial | assumption | exact Flat.any (by assumption) | exact ⟨by omega, by omega⟩ | (show WfS _; unfold WfS; omega) | (show WfS _; unfold WfS; simp only [List.length_append, List.length_cons, List.length_nil] at *; omega) | (refine Ph.old ?_ hs; assumption)), (by first | exact (Flat.any hokx2).digest | trivial | assumption | exact Flat.any (by assumption) | exact ⟨by omega, by omega⟩ | (show WfS _; unfold WfS; omega) | (show WfS _; unfold WfS; simp only [List.length_append, List.length_cons, List.length_nil] at *; omega) | (refine Ph.old ?_ hs; assumption))⟩, ?_, ?_⟩
 ·
  trivial
 ·
  trivial

theorem c_impl_SameRequest (a : TRequest) (b : TRequest) (w : World)   : Calls Tryz.prog 72 [.agg #[I a.kind, S a.to.host, S a.to.path, S a.frm, S a.digest], .agg #[I b.kind, S b.to.host, S b.to.path, S b.frm, S b.digest]].toArray w (RetP w (Bo (decide (a.to = b.to) && decide (a.frm = b.frm)))) := by
 refine enterN 17 Tryz.func72 rfl rfl rfl ?_
 have hs := Sat.start w
 refine WC.seq ?_
 refine WL.r Q0 (Yr.box hs Q0 Q0) ?_
 clear hs; rintro _ w ⟨b1, rfl, hb, hs⟩; clear hb
 refine WL.r Q0 (Yr.box hs Q0 Q0) ?_
 clear hs; rintro _ w ⟨b2, rfl, hb, hs⟩; clear hb
 refine Qa ?_
 refine WL.next ?_
 refine WC.seq ?_
 refine WL.p Q0 (Yl.fieldAddr fa110_1 Q0) ?_
 refine WL.p Q0 (Yl.loadAB agg39 Q0 hs Q1 Q0 Q0) ?_
 refine WL.p Q0 (Yl.fieldAddr fa110_1 Q0) ?_
 refine WL.p Q0 (Yl.loadAB agg39 Q0 hs Q1 Q0 Q0) ?_
 refine WL.p Q0 (Yl.eqt eqt39 Q0 Q0) ?_
 refine Qm ?_
 refine WL.split (d := 10) Q0 (fun h1 => ?_) (fun h1 => ?_)
 ·
  replace h1 := of_decide_eq_true h1
  refine WL.run (d := 10) Q0 Q0 ?_
  refine WL.p Q0 (Yl.fieldAddr fa110_2 Q0) ?_
  refine WL.run (d := 10) Q0 Q0 ?_
  refine WL.p Q0 (Yl.loadB sca9 Q0 hs Q1 Q0) ?_
  refine WL.run (d := 10) Q0 Q0 ?_
  refine WL.p Q0 (Yl.fieldAddr fa110_2 Q0) ?_
  refine WL.run (d := 10) Q0 Q0 ?_
  refine WL.p Q0 (Yl.loadB sca9 Q0 hs Q1 Q0) ?_
  refine WL.run (d := 10) Q0 Q0 ?_
  refine WL.p Q0 (Yl.eqs Q0 Q0) ?_
  refine WL.p Q0 (Yl.pickT Q0 Q0) ?_
  refine Qa ?_
  refine WL.next ?_
  refine WC.ret ?_
  refine fin1' rfl Q0 ?_
  refine RetP.mk hs ?_
  simp_all
 ·
  replace h1 := of_decide_eq_false h1
  refine WL.skip (d := 10) Q0 Q0 Q0 Q0 ?_
  refine WL.skip (d := 10) Q0 Q0 Q0 Q0 ?_
  refine WL.skip (d := 10) Q0 Q0 Q0 Q0 ?_
  refine WL.skip (d := 10) Q0 Q0 Q0 Q0 ?_
  refine WL.skip (d := 10) Q0 Q0 Q0 Q0 ?_
  refine WL.p Q0 (Yl.pickF Q0 Q0) ?_
  refine Qa ?_
  refine WL.next ?_
  refine WC.ret ?_
  refine fin1' rfl Q0 ?_
  refine RetP.mk hs ?_
  simp_all

theorem c_impl_CanGuess (r : TRequest) (w : World) (h_r : Ph.ok w r)  : Calls Tryz.prog 73 [.agg #[I r.kind, S r.to.host, S r.to.path, S r.frm, S r.digest]].toArray w (RetP w (Bo (r.is && (decide (r.kind ≠ 1) && decide (r.to.host = r.frm))))) := by
 refine enterN 18 Tryz.func73 rfl rfl rfl ?_
 have hs := Sat.start w
 refine WC.seq ?_
 refine WL.r Q0 (Yr.box hs Q0 Q0) ?_
 clear hs; rintro _ w ⟨b1, rfl, hb, hs⟩; clear hb
 refine Qa ?_
 refine WL.next ?_
 refine WC.seq ?_
 refine WL.p Q0 (Yl.loadAB agg110 Q0 hs Q1 Q0 Q0) ?_
 refine WL.callp hs Q0 (Yc.func Q0 fn165) (c_impl_IsRequest _ _ (Ph.old h_r hs)) ?_
 clear hs; intro w hs
 refine Qm ?_
 refine WL.split (d := 5) Q0 (fun h1 => ?_) (fun h1 => ?_)
 ·
  refine WL.run (d := 5) Q0 Q0 ?_
  refine WL.p Q0 (Yl.fieldAddr fa110_0 Q0) ?_
  refine WL.run (d := 5) Q0 Q0 ?_
  refine WL.p Q0 (Yl.loadB sca3 Q0 hs Q1 Q0) ?_
  refine WL.run (d := 5) Q0 Q0 ?_
  refine WL.p Q0 (Yl.nei Q0 Q0) ?_
  refine WL.p Q0 (Yl.pickT Q0 Q0) ?_
  refine Qm ?_
  refine WL.split (d := 10) Q0 (fun h2 => ?_) (fun h2 => ?_)
  ·
   replace h2 := not_eq_true h2
   replace h2 := of_decide_eq_false h2
   refine WL.run (d := 10) Q0 Q0 ?_
   refine WL.p Q0 (Yl.fieldAddr fa110_1 Q0) ?_
   refine WL.run (d := 10) Q0 Q0 ?_
   refine WL.p Q0 (Yl.fieldAddr fa39_0 Q0) ?_
   refine WL.run (d := 10) Q0 Q0 ?_
   refine WL.p Q0 (Yl.loadB sca9 Q0 hs Q1 Q0) ?_
   refine WL.run (d := 10) Q0 Q0 ?_
   refine WL.p Q0 (Yl.fieldAddr fa110_2 Q0) ?_
   refine WL.run (d := 10) Q0 Q0 ?_
   refine WL.p Q0 (Yl.loadB sca9 Q0 hs Q1 Q0) ?_
   refine WL.run (d := 10) Q0 Q0 ?_
   refine WL.p Q0 (Yl.eqs Q0 Q0) ?_
   refine WL.p Q0 (Yl.pickT Q0 Q0) ?_
   refine Qa ?_
   refine WL.next ?_
   refine WC.ret ?_
   refine fin1' rfl Q0 ?_
   refine RetP.mk hs ?_
   simp_all
  ·
   replace h2 := not_eq_false h2
   replace h2 := of_decide_eq_true h2
   refine WL.skip (d := 10) Q0 Q0 Q0 Q0 ?_
   refine WL.skip (d := 10) Q0 Q0 Q0 Q0 ?_
   refine WL.skip (d := 10) Q0 Q0 Q0 Q0 ?_
   refine WL.skip (d := 10) Q0 Q0 Q0 Q0 ?_
   refine WL.skip (d := 10) Q0 Q0 Q0 Q0 ?_
   refine WL.skip (d := 10) Q0 Q0 Q0 Q0 ?_
   refine WL.p Q0 (Yl.pickF Q0 Q0) ?_
   refine Qa ?_
   refine WL.next ?_
   refine WC.ret ?_
   refine fin1' rfl Q0 ?_
   refine RetP.mk hs ?_
   simp_all
 ·
  refine WL.skip (d := 5) Q0 Q0 Q0 Q0 ?_
  refine WL.skip (d := 5) Q0 Q0 Q0 Q0 ?_
  refine WL.skip (d := 5) Q0 Q0 Q0 Q0 ?_
  refine WL.p Q0 (Yl.pickF Q0 Q0) ?_
  refine Qm ?_
  refine WL.skip (d := 10) Q0 Q0 Q0 Q0 ?_
  refine WL.skip (d := 10) Q0 Q0 Q0 Q0 ?_
  refine WL.skip (d := 10) Q0 Q0 Q0 Q0 ?_
  refine WL.skip (d := 10) Q0 Q0 Q0 Q0 ?_
  refine WL.skip (d := 10) Q0 Q0 Q0 Q0 ?_
  refine WL.skip (d := 10) Q0 Q0 Q0 Q0 ?_
  refine WL.p Q0 (Yl.pickF Q0 Q0) ?_
  refine Qa ?_
  refine WL.next ?_
  refine WC.ret ?_
  refine fin1' rfl Q0 ?_
  refine RetP.mk hs ?_
  simp_all

theorem c_spec_CanGuess (r : TRequest) (w : World) (h_r : Ph.ok w r)  : Calls Tryz.prog 74 [.agg #[I r.kind, S r.to.host, S r.to.path, S r.frm, S r.digest]].toArray w (RetP w (Bo (r.is && (decide (r.kind ≠ 1) && decide (r.to.host = r.frm))))) := by
 refine enterN 18 Tryz.func74 rfl rfl rfl ?_
 have hs := Sat.start w
 refine WC.seq ?_
 refine WL.r Q0 (Yr.box hs Q0 Q0) ?_
 clear hs; rintro _ w ⟨b1, rfl, hb, hs⟩; clear hb
 refine Qa ?_
 refine WL.next ?_
 refine WC.seq ?_
 refine WL.p Q0 (Yl.loadAB agg110 Q0 hs Q1 Q0 Q0) ?_
 refine WL.callp hs Q0 (Yc.func Q0 fn170) (c_spec_IsRequest _ _ (Ph.old h_r hs)) ?_
 clear hs; intro w hs
 refine Qm ?_
 refine WL.split (d := 5) Q0 (fun h1 => ?_) (fun h1 => ?_)
 ·
  refine WL.run (d := 5) Q0 Q0 ?_
  refine WL.p Q0 (Yl.fieldAddr fa110_0 Q0) ?_
  refine WL.run (d := 5) Q0 Q0 ?_
  refine WL.p Q0 (Yl.loadB sca3 Q0 hs Q1 Q0) ?_
  refine WL.run (d := 5) Q0 Q0 ?_
  refine WL.p Q0 (Yl.nei Q0 Q0) ?_
  refine WL.p Q0 (Yl.pickT Q0 Q0) ?_
  refine Qm ?_
  refine WL.split (d := 10) Q0 (fun h2 => ?_) (fun h2 => ?_)
  ·
   replace h2 := not_eq_true h2
   replace h2 := of_decide_eq_false h2
   refine WL.run (d := 10) Q0 Q0 ?_
   refine WL.p Q0 (Yl.fieldAddr fa110_1 Q0) ?_
   refine WL.run (d := 10) Q0 Q0 ?_
   refine WL.p Q0 (Yl.fieldAddr fa39_0 Q0) ?_
   refine WL.run (d := 10) Q0 Q0 ?_
   refine WL.p Q0 (Yl.loadB sca9 Q0 hs Q1 Q0) ?_
   refine WL.run (d := 10) Q0 Q0 ?_
   refine WL.p Q0 (Yl.fieldAddr fa110_2 Q0) ?_
   refine WL.run (d := 10) Q0 Q0 ?_
   refine WL.p Q0 (Yl.loadB sca9 Q0 hs Q1 Q0) ?_
   refine WL.run (d := 10) Q0 Q0 ?_
   refine WL.p Q0 (Yl.eqs Q0 Q0) ?_
   refine WL.p Q0 (Yl.pickT Q0 Q0) ?_
   refine Qa ?_
   refine WL.next ?_
   refine WC.ret ?_
   refine fin1' rfl Q0 ?_
   refine RetP.mk hs ?_
   simp_all
  ·
   replace h2 := not_eq_false h2
   replace h2 := of_decide_eq_true h2
   refine WL.skip (d := 10) Q0 Q0 Q0 Q0 ?_
   refine WL.skip (d := 10) Q0 Q0 Q0 Q0 ?_
   refine WL.skip (d := 10) Q0 Q0 Q0 Q0 ?_
   refine WL.skip (d := 10) Q0 Q0 Q0 Q0 ?_
   refine WL.skip (d := 10) Q0 Q0 Q0 Q0 ?_
   refine WL.skip (d := 10) Q0 Q0 Q0 Q0 ?_
   refine WL.p Q0 (Yl.pickF Q0 Q0) ?_
   refine Qa ?_
   refine WL.next ?_
   refine WC.ret ?_
   refine fin1' rfl Q0 ?_
   refine RetP.mk hs ?_
   simp_all
 ·
  refine WL.skip (d := 5) Q0 Q0 Q0 Q0 ?_
  refine WL.skip (d := 5) Q0 Q0 Q0 Q0 ?_
  refine WL.skip (d := 5) Q0 Q0 Q0 Q0 ?_
  refine WL.p Q0 (Yl.pickF Q0 Q0) ?_
  refine Qm ?_
  refine WL.skip (d := 10) Q0 Q0 Q0 Q0 ?_
  refine WL.skip (d := 10) Q0 Q0 Q0 Q0 ?_
  refine WL.skip (d := 10) Q0 Q0 Q0 Q0 ?_
  refine WL.skip (d := 10) Q0 Q0 Q0 Q0 ?_
  refine WL.skip (d := 10) Q0 Q0 Q0 Q0 ?_
  refine WL.skip (d := 10) Q0 Q0 Q0 Q0 ?_
  refine WL.p Q0 (Yl.pickF Q0 Q0) ?_
  refine Qa ?_
  refine WL.next ?_
  refine WC.ret ?_
  refine fin1' rfl Q0 ?_
  refine RetP.mk hs ?_
  simp_all

theorem c_laws_FnChecks (code : (Sl UInt8)) (w : World) (h_code : Ph.ok w code) (hm_ : ∃ m, w.cell? ⟨0, 0, none⟩ = some (.int .i64 m)) (ht_ : Tab10 Tryz.prog w) : Calls Tryz.prog 8 [Sl.v code].toArray w (RetP w (Bo true)) := by
 refine enterN 175 Tryz.func8 rfl rfl rfl ?_
 have hs := Sat.start w
 refine WC.seq ?_
 refine Qa ?_
 refine WL.next ?_
 refine WC.seq' ?_
 refine WC.seq ?_
 refine Qm ?_
 refine WL.callp hs Q0 (Yc.func Q0 fn10) (c_laws_big _ _ (Ph.old h_code hs)) ?_
 clear hs; intro w hs
 refine WL.next ?_
 refine WC.condS Q0 (fun h1 => ?_) (fun h1 => ?_)
 ·
  replace h1 := of_decide_eq_true h1
  refine WC.seq ?_
  refine Qa ?_
  refine WL.next ?_
  refine WC.ret ?_
  refine At.thenret ?_
  refine fin1' rfl Q0 ?_
  refine RetP.mk hs ?_
  first
   | rfl
   | (clear hs; simp_all; done)
   | (clear hs; have e9 := check_no x1_p.lg x1_r x1_x; simp_all; done)
 ·
  replace h1 := of_decide_eq_false h1
  refine WC.skipn ?_
  refine WC.seq ?_
  refine Qm ?_
  refine WL.callx hs Q0 (Yc.func Q0 fn60) (c_spec_DrawCheckResponse _ _ (Ph.old h_code hs)) ?_
  clear hs; intro v w ho hR hs
  obtain ⟨x1_p, x1_r, x1_x, rfl, ⟨hokx1_r, hokx1_x⟩, hx1, hf1⟩ := hR
  obtain ⟨F1, hs⟩ := hs.addF ho hf1
  clear ho hf1
  refine Qm ?_
  refine WL.p Q0 (Yl.extract Q0 Q0) ?_
  refine WL.p Q0 (Yl.extract Q0 Q0) ?_
  refine WL.p Q0 (Yl.extract Q0 Q0) ?_
  refine WL.r Q0 (Yr.alloc hs zt108) ?_
  clear hs; rintro _ w ⟨b2, rfl, hb, hs⟩; clear hb
  refine WL.r Q0 (Yr.alloc hs zt110) ?_
  clear hs; rintro _ w ⟨b3, rfl, hb, hs⟩; clear hb
  refine WL.r Q0 (Yr.alloc hs zt72) ?_
  clear hs; rintro _ w ⟨b4, rfl, hb, hs⟩; clear hb
  refine WL.s (Yr.storeB hs Q0 Q0 Q0 Q5 Q3 Q0 (by exact szf108)) ?_
  clear hs; rintro _ w hs
  refine WL.s (Yr.storeB hs Q0 Q0 Q0 Q5 Q3 Q0 (by exact szf110)) ?_
  clear hs; rintro _ w hs
  refine WL.s (Yr.storeB hs Q0 Q0 Q0 Q5 Q3 Q0 (by exact szf72)) ?_
  clear hs; rintro _ w hs
  refine WL.next ?_
  refine WC.seq ?_
  refine WL.p Q0 (Yl.loadAB agg108 Q0 hs Q1 Q0 Q0) ?_
  refine WL.p Q0 (Yl.loadAB agg110 Q0 hs Q1 Q0 Q0) ?_
  refine WL.p Q0 (Yl.loadAB agg72 Q0 hs Q1 Q0 Q0) ?_
  refine WL.callp hs Q0 (Yc.func Q0 fn61) (c_impl_CheckResponse _ _ _ _ (hs.okow (x := x1_p) (F := F1) Q1) (Flat.any hokx1_r) (Flat.any hokx1_x) (by simp only [TResponse.size] at *; omega) (by simp only [TResponse.size] at *; omega) (by first | assumption | exact Sat.cellm hs (by assumption)) (by first | assumption | exact Sat.tab hs (by assumption))) ?_
  clear hs; intro w hs
  refine Qa ?_
  refine WL.next ?_
  refine WC.seq ?_
  refine WL.p Q0 (Yl.loadAB agg108 Q0 hs Q1 Q0 Q0) ?_
  refine WL.p Q0 (Yl.loadAB agg110 Q0 hs Q1 Q0 Q0) ?_
  refine WL.p Q0 (Yl.loadAB agg72 Q0 hs Q1 Q0 Q0) ?_
  refine WL.callp hs Q0 (Yc.func Q0 fn62) (c_impl_UsableBody _ _ _ _ (hs.okow (x := x1_p) (F := F1) Q1) (Flat.any hokx1_r) (Flat.any hokx1_x) (by simp only [TResponse.size] at *; omega) (by simp only [TResponse.size] at *; omega) (by first | assumption | exact Sat.cellm hs (by assumption)) (by first | assumption | exact Sat.tab hs (by assumption))) ?_
  clear hs; intro w hs
  refine Qm ?_
  refine WL.p Q0 (Yl.extract Q0 Q0) ?_
  refine WL.p Q0 (Yl.extract Q0 Q0) ?_
  refine Qa ?_
  refine Qa ?_
  refine WL.next ?_
  refine WC.seq' ?_
  refine WC.seqJ (fun b => [(64, Bo b)]) (fun b => b = false) [(0, _), (2, _), (3, _), (4, _), (5, _), (6, _), (7, _), (8, _), (13, _)] hs ⟨by rfl, by rfl, by rfl, by rfl, by rfl, by rfl, by rfl, by rfl, by rfl, trivial⟩ ?_ ?_
  ·
   intro Q9 join
   refine WC.region ?_
   refine Qm ?_
   refine WL.p Q0 (Yl.loadAB agg108 Q0 hs Q1 Q0 Q0) ?_
   refine WL.p Q0 (Yl.loadAB agg110 Q0 hs Q1 Q0 Q0) ?_
   refine WL.p Q0 (Yl.loadAB agg72 Q0 hs Q1 Q0 Q0) ?_
   refine WL.callp hs Q0 (Yc.func Q0 fn63) (c_spec_CheckResponse _ _ _ _ (hs.okow (x := x1_p) (F := F1) Q1) (Flat.any hokx1_r) (Flat.any hokx1_x) (by simp only [TResponse.size] at *; omega) (by simp only [TResponse.size] at *; omega)) ?_
   clear hs; intro w hs
   refine WL.p Q0 (Yl.nei Q0 Q0) ?_
   refine Qm ?_
   refine WL.split (d := 37) Q0 (fun h2 => ?_) (fun h2 => ?_)
   ·
    replace h2 := not_eq_true h2
    replace h2 := of_decide_eq_false h2
    refine WL.skip (d := 37) Q0 Q0 Q0 Q0 ?_
    refine WL.skip (d := 37) Q0 Q0 Q0 Q0 ?_
    refine WL.skip (d := 37) Q0 Q0 Q0 Q0 ?_
    refine WL.skip (d := 37) Q0 Q0 Q0 Q0 ?_
    refine WL.p Q0 (Yl.pickT Q0 Q0) ?_
    refine Qm ?_
    refine WL.skip (d := 43) Q0 Q0 Q0 Q0 ?_
    refine WL.skip (d := 43) Q0 Q0 Q0 Q0 ?_
    refine WL.skipU (d := 45) Q0 Q0 Q0 ?_
    refine WL.skipU (d := 45) Q0 Q0 Q0 ?_
    refine WL.skipU (d := 45) Q0 Q0 Q0 ?_
    refine WL.skipU (d := 45) Q0 Q0 Q0 ?_
    refine WL.skip (d := 43) Q0 Q0 Q0 Q0 ?_
    refine WL.p Q0 (Yl.pickT Q0 Q0) ?_
    refine Qm ?_
    refine WL.skip (d := 52) Q0 Q0 Q0 Q0 ?_
    refine WL.skip (d := 52) Q0 Q0 Q0 Q0 ?_
    refine WL.skip (d := 52) Q0 Q0 Q0 Q0 ?_
    refine WL.skipU (d := 55) Q0 Q0 Q0 ?_
    refine WL.skipU (d := 55) Q0 Q0 Q0 ?_
    refine WL.skip (d := 52) Q0 Q0 Q0 Q0 ?_
    refine WL.p Q0 (Yl.pickT Q0 Q0) ?_
    refine Qm ?_
    refine WL.skip (d := 60) Q0 Q0 Q0 Q0 ?_
    refine WL.skip (d := 60) Q0 Q0 Q0 Q0 ?_
    refine WL.skip (d := 60) Q0 Q0 Q0 Q0 ?_
    refine WL.p Q0 (Yl.pickT Q0 Q0) ?_
    refine WL.nil ?_
    refine join _ _ _ ?_ (hs.only Q2) ⟨by rfl, trivial⟩ ⟨by rfl, by rfl, by rfl, by rfl, by rfl, by rfl, by rfl, by rfl, by rfl, trivial⟩
    (try clear join); (try clear ha); (try clear hs)
    first
     | (simp_all; done)
     | (have e9 := check_ok (by assumption); simp_all; done)
     | (have e9 := check_rg x1_p.lg x1_r x1_x; simp_all; done)
     | (have e9 := check_no x1_p.lg x1_r x1_x; simp_all; done)
   ·
    replace h2 := not_eq_false h2
    replace h2 := of_decide_eq_true h2
    refine WL.run (d := 37) Q0 Q0 ?_
    refine Qm ?_
    refine WL.run (d := 37) Q0 Q0 ?_
    refine Qm ?_
    refine WL.run (d := 37) Q0 Q0 ?_
    refine WL.p Q0 (Yl.eqi Q0 Q0) ?_
    refine WL.run (d := 37) Q0 Q0 ?_
    refine WL.p Q0 (Yl.neb bool4 Q0 Q0) ?_
    refine WL.p Q0 (Yl.pickF Q0 Q0) ?_
    refine Qm ?_
    refine WL.split (d := 43) Q0 (fun h3 => ?_) (fun h3 => ?_)
    ·
     replace h3 := not_eq_true h3
     replace h3 := beq_false h3
     refine WL.skip (d := 43) Q0 Q0 Q0 Q0 ?_
     refine WL.skip (d := 43) Q0 Q0 Q0 Q0 ?_
     refine WL.skipU (d := 45) Q0 Q0 Q0 ?_
     refine WL.skipU (d := 45) Q0 Q0 Q0 ?_
     refine WL.skipU (d := 45) Q0 Q0 Q0 ?_
     refine WL.skipU (d := 45) Q0 Q0 Q0 ?_
     refine WL.skip (d := 43) Q0 Q0 Q0 Q0 ?_
     refine WL.p Q0 (Yl.pickT Q0 Q0) ?_
     refine Qm ?_
     refine WL.skip (d := 52) Q0 Q0 Q0 Q0 ?_
     refine WL.skip (d := 52) Q0 Q0 Q0 Q0 ?_
     refine WL.skip (d := 52) Q0 Q0 Q0 Q0 ?_
     refine WL.skipU (d := 55) Q0 Q0 Q0 ?_
     refine WL.skipU (d := 55) Q0 Q0 Q0 ?_
     refine WL.skip (d := 52) Q0 Q0 Q0 Q0 ?_
     refine WL.p Q0 (Yl.pickT Q0 Q0) ?_
     refine Qm ?_
     refine WL.skip (d := 60) Q0 Q0 Q0 Q0 ?_
     refine WL.skip (d := 60) Q0 Q0 Q0 Q0 ?_
     refine WL.skip (d := 60) Q0 Q0 Q0 Q0 ?_
     refine WL.p Q0 (Yl.pickT Q0 Q0) ?_
     refine WL.nil ?_
     refine join _ _ _ ?_ (hs.only Q2) ⟨by rfl, trivial⟩ ⟨by rfl, by rfl, by rfl, by rfl, by rfl, by rfl, by rfl, by rfl, by rfl, trivial⟩
     (try clear join); (try clear ha); (try clear hs)
     first
      | (simp_all; done)
      | (have e9 := check_ok (by assumption); simp_all; done)
      | (have e9 := check_rg x1_p.lg x1_r x1_x; simp_all; done)
      | (have e9 := check_no x1_p.lg x1_r x1_x; simp_all; done)
    ·
     replace h3 := not_eq_false h3
     replace h3 := beq_true h3
     refine WL.run (d := 43) Q0 Q0 ?_
     refine Qm ?_
     refine WL.run (d := 43) Q0 Q0 ?_
     refine Qm ?_
     refine WL.split (d := 45) Q0 (fun h4 => ?_) (fun h4 => ?_)
     ·
      refine WL.run (d := 45) Q0 Q0 ?_
      refine Qm ?_
      refine WL.run (d := 45) Q0 Q0 ?_
      refine WL.p Q0 (Yl.fieldAddr fa72_2 Q0) ?_
      refine WL.run (d := 45) Q0 Q0 ?_
      refine WL.p Q0 (Yl.loadB sca9 Q0 hs Q1 Q0) ?_
      refine WL.run (d := 45) Q0 Q0 ?_
      refine WL.p Q0 (Yl.nes Q0 Q0) ?_
      refine WL.run (d := 43) Q0 Q0 ?_
      refine WL.p Q0 (Yl.pickT Q0 Q0) ?_
      refine WL.p Q0 (Yl.pickF Q0 Q0) ?_
      refine Qm ?_
      refine WL.split (d := 52) Q0 (fun h5 => ?_) (fun h5 => ?_)
      ·
       replace h5 := not_eq_true h5
       replace h5 := of_decide_eq_false h5
       refine WL.skip (d := 52) Q0 Q0 Q0 Q0 ?_
       refine WL.skip (d := 52) Q0 Q0 Q0 Q0 ?_
       refine WL.skip (d := 52) Q0 Q0 Q0 Q0 ?_
       refine WL.skipU (d := 55) Q0 Q0 Q0 ?_
       refine WL.skipU (d := 55) Q0 Q0 Q0 ?_
       refine WL.skip (d := 52) Q0 Q0 Q0 Q0 ?_
       refine WL.p Q0 (Yl.pickT Q0 Q0) ?_
       refine Qm ?_
       refine WL.skip (d := 60) Q0 Q0 Q0 Q0 ?_
       refine WL.skip (d := 60) Q0 Q0 Q0 Q0 ?_
       refine WL.skip (d := 60) Q0 Q0 Q0 Q0 ?_
       refine WL.p Q0 (Yl.pickT Q0 Q0) ?_
       refine WL.nil ?_
       refine join _ _ _ ?_ (hs.only Q2) ⟨by rfl, trivial⟩ ⟨by rfl, by rfl, by rfl, by rfl, by rfl, by rfl, by rfl, by rfl, by rfl, trivial⟩
       (try clear join); (try clear ha); (try clear hs)
       first
        | (simp_all; done)
        | (have e9 := check_ok (by assumption); simp_all; done)
        | (have e9 := check_rg x1_p.lg x1_r x1_x; simp_all; done)
        | (have e9 := check_no x1_p.lg x1_r x1_x; simp_all; done)
      ·
       replace h5 := not_eq_false h5
       replace h5 := of_decide_eq_true h5
       refine WL.run (d := 52) Q0 Q0 ?_
       refine Qm ?_
       refine WL.run (d := 52) Q0 Q0 ?_
       refine WL.p Q0 (Yl.not Q0) ?_
       refine WL.run (d := 52) Q0 Q0 ?_
       refine Qm ?_
       refine WL.split (d := 55) Q0 (fun h6 => ?_) (fun h6 => ?_)
       ·
        replace h6 := not_eq_true h6
        refine WL.run (d := 55) Q0 Q0 ?_
        refine Qm ?_
        refine WL.run (d := 55) Q0 Q0 ?_
        refine WL.p Q0 (Yl.nes Q0 Q0) ?_
        refine WL.run (d := 52) Q0 Q0 ?_
        refine WL.p Q0 (Yl.pickT Q0 Q0) ?_
        refine WL.p Q0 (Yl.pickF Q0 Q0) ?_
        refine Qm ?_
        refine WL.split (d := 60) Q0 (fun h7 => ?_) (fun h7 => ?_)
        ·
         replace h7 := not_eq_true h7
         replace h7 := of_decide_eq_false h7
         refine WL.skip (d := 60) Q0 Q0 Q0 Q0 ?_
         refine WL.skip (d := 60) Q0 Q0 Q0 Q0 ?_
         refine WL.skip (d := 60) Q0 Q0 Q0 Q0 ?_
         refine WL.p Q0 (Yl.pickT Q0 Q0) ?_
         refine WL.nil ?_
         refine join _ _ _ ?_ (hs.only Q2) ⟨by rfl, trivial⟩ ⟨by rfl, by rfl, by rfl, by rfl, by rfl, by rfl, by rfl, by rfl, by rfl, trivial⟩
         (try clear join); (try clear ha); (try clear hs)
         first
          | (simp_all; done)
          | (have e9 := check_ok (by assumption); simp_all; done)
          | (have e9 := check_rg x1_p.lg x1_r x1_x; simp_all; done)
          | (have e9 := check_no x1_p.lg x1_r x1_x; simp_all; done)
        ·
         replace h7 := not_eq_false h7
         replace h7 := of_decide_eq_true h7
         refine WL.run (d := 60) Q0 Q0 ?_
         refine Qm ?_
         refine WL.run (d := 60) Q0 Q0 ?_
         refine WL.callp hs Q0 (Yc.func Q0 fn64) (c_impl_VerdictName _ _) ?_
         clear hs; intro w hs
         refine WL.run (d := 60) Q0 Q0 ?_
         refine WL.p Q0 (Yl.eqs Q0 Q0) ?_
         refine WL.p Q0 (Yl.pickF Q0 Q0) ?_
         refine WL.nil ?_
         refine join _ _ _ ?_ (hs.only Q2) ⟨by rfl, trivial⟩ ⟨by rfl, by rfl, by rfl, by rfl, by rfl, by rfl, by rfl, by rfl, by rfl, trivial⟩
         (try clear join); (try clear ha); (try clear hs)
         first
          | (simp_all; done)
          | (have e9 := check_ok (by assumption); simp_all; done)
          | (have e9 := check_rg x1_p.lg x1_r x1_x; simp_all; done)
          | (have e9 := check_no x1_p.lg x1_r x1_x; simp_all; done)
       ·
        replace h6 := not_eq_false h6
        refine WL.skip (d := 55) Q0 Q0 Q0 Q0 ?_
        refine WL.skip (d := 55) Q0 Q0 Q0 Q0 ?_
        refine WL.run (d := 52) Q0 Q0 ?_
        refine WL.p Q0 (Yl.pickF Q0 Q0) ?_
        refine WL.p Q0 (Yl.pickF Q0 Q0) ?_
        refine Qm ?_
        refine WL.run (d := 60) Q0 Q0 ?_
        refine Qm ?_
        refine WL.run (d := 60) Q0 Q0 ?_
        refine WL.callp hs Q0 (Yc.func Q0 fn64) (c_impl_VerdictName _ _) ?_
        clear hs; intro w hs
        refine WL.run (d := 60) Q0 Q0 ?_
        refine WL.p Q0 (Yl.eqs Q0 Q0) ?_
        refine WL.p Q0 (Yl.pickF Q0 Q0) ?_
        refine WL.nil ?_
        refine join _ _ _ ?_ (hs.only Q2) ⟨by rfl, trivial⟩ ⟨by rfl, by rfl, by rfl, by rfl, by rfl, by rfl, by rfl, by rfl, by rfl, trivial⟩
        (try clear join); (try clear ha); (try clear hs)
        first
         | (simp_all; done)
         | (have e9 := check_ok (by assumption); simp_all; done)
         | (have e9 := check_rg x1_p.lg x1_r x1_x; simp_all; done)
         | (have e9 := check_no x1_p.lg x1_r x1_x; simp_all; done)
     ·
      refine WL.skip (d := 45) Q0 Q0 Q0 Q0 ?_
      refine WL.skip (d := 45) Q0 Q0 Q0 Q0 ?_
      refine WL.skip (d := 45) Q0 Q0 Q0 Q0 ?_
      refine WL.skip (d := 45) Q0 Q0 Q0 Q0 ?_
      refine WL.run (d := 43) Q0 Q0 ?_
      refine WL.p Q0 (Yl.pickF Q0 Q0) ?_
      refine WL.p Q0 (Yl.pickF Q0 Q0) ?_
      refine Qm ?_
      refine WL.run (d := 52) Q0 Q0 ?_
      refine Qm ?_
      refine WL.run (d := 52) Q0 Q0 ?_
      refine WL.p Q0 (Yl.not Q0) ?_
      refine WL.run (d := 52) Q0 Q0 ?_
      refine Qm ?_
      refine WL.split (d := 55) Q0 (fun h5 => ?_) (fun h5 => ?_)
      ·
       replace h5 := not_eq_true h5
       refine WL.run (d := 55) Q0 Q0 ?_
       refine Qm ?_
       refine WL.run (d := 55) Q0 Q0 ?_
       refine WL.p Q0 (Yl.nes Q0 Q0) ?_
       refine WL.run (d := 52) Q0 Q0 ?_
       refine WL.p Q0 (Yl.pickT Q0 Q0) ?_
       refine WL.p Q0 (Yl.pickF Q0 Q0) ?_
       refine Qm ?_
       refine WL.split (d := 60) Q0 (fun h6 => ?_) (fun h6 => ?_)
       ·
        replace h6 := not_eq_true h6
        replace h6 := of_decide_eq_false h6
        refine WL.skip (d := 60) Q0 Q0 Q0 Q0 ?_
        refine WL.skip (d := 60) Q0 Q0 Q0 Q0 ?_
        refine WL.skip (d := 60) Q0 Q0 Q0 Q0 ?_
        refine WL.p Q0 (Yl.pickT Q0 Q0) ?_
        refine WL.nil ?_
        refine join _ _ _ ?_ (hs.only Q2) ⟨by rfl, trivial⟩ ⟨by rfl, by rfl, by rfl, by rfl, by rfl, by rfl, by rfl, by rfl, by rfl, trivial⟩
        (try clear join); (try clear ha); (try clear hs)
        first
         | (simp_all; done)
         | (have e9 := check_ok (by assumption); simp_all; done)
         | (have e9 := check_rg x1_p.lg x1_r x1_x; simp_all; done)
         | (have e9 := check_no x1_p.lg x1_r x1_x; simp_all; done)
       ·
        replace h6 := not_eq_false h6
        replace h6 := of_decide_eq_true h6
        refine WL.run (d := 60) Q0 Q0 ?_
        refine Qm ?_
        refine WL.run (d := 60) Q0 Q0 ?_
        refine WL.callp hs Q0 (Yc.func Q0 fn64) (c_impl_VerdictName _ _) ?_
        clear hs; intro w hs
        refine WL.run (d := 60) Q0 Q0 ?_
        refine WL.p Q0 (Yl.eqs Q0 Q0) ?_
        refine WL.p Q0 (Yl.pickF Q0 Q0) ?_
        refine WL.nil ?_
        refine join _ _ _ ?_ (hs.only Q2) ⟨by rfl, trivial⟩ ⟨by rfl, by rfl, by rfl, by rfl, by rfl, by rfl, by rfl, by rfl, by rfl, trivial⟩
        (try clear join); (try clear ha); (try clear hs)
        first
         | (simp_all; done)
         | (have e9 := check_ok (by assumption); simp_all; done)
         | (have e9 := check_rg x1_p.lg x1_r x1_x; simp_all; done)
         | (have e9 := check_no x1_p.lg x1_r x1_x; simp_all; done)
      ·
       replace h5 := not_eq_false h5
       refine WL.skip (d := 55) Q0 Q0 Q0 Q0 ?_
       refine WL.skip (d := 55) Q0 Q0 Q0 Q0 ?_
       refine WL.run (d := 52) Q0 Q0 ?_
       refine WL.p Q0 (Yl.pickF Q0 Q0) ?_
       refine WL.p Q0 (Yl.pickF Q0 Q0) ?_
       refine Qm ?_
       refine WL.run (d := 60) Q0 Q0 ?_
       refine Qm ?_
       refine WL.run (d := 60) Q0 Q0 ?_
       refine WL.callp hs Q0 (Yc.func Q0 fn64) (c_impl_VerdictName _ _) ?_
       clear hs; intro w hs
       refine WL.run (d := 60) Q0 Q0 ?_
       refine WL.p Q0 (Yl.eqs Q0 Q0) ?_
       refine WL.p Q0 (Yl.pickF Q0 Q0) ?_
       refine WL.nil ?_
       refine join _ _ _ ?_ (hs.only Q2) ⟨by rfl, trivial⟩ ⟨by rfl, by rfl, by rfl, by rfl, by rfl, by rfl, by rfl, by rfl, by rfl, trivial⟩
       (try clear join); (try clear ha); (try clear hs)
       first
        | (simp_all; done)
        | (have e9 := check_ok (by assumption); simp_all; done)
        | (have e9 := check_rg x1_p.lg x1_r x1_x; simp_all; done)
        | (have e9 := check_no x1_p.lg x1_r x1_x; simp_all; done)
  ·
   clear hs; rintro _ w rfl hs
   refine WC.condF Q0 ?_
   refine WC.skipn ?_
   refine WC.seq' ?_
   refine WC.seq ?_
   refine Qm ?_
   refine WL.p Q0 (Yl.not Q0) ?_
   refine WL.next ?_
   refine WC.condS Q0 (fun h2 => ?_) (fun h2 => ?_)
   ·
    replace h2 := not_eq_true h2
    refine WC.seq ?_
    refine WL.p Q0 (Yl.loadAB agg108 Q0 hs Q1 Q0 Q0) ?_
    refine WL.p Q0 (Yl.loadAB agg110 Q0 hs Q1 Q0 Q0) ?_
    refine WL.callp hs Q0 (Yc.func Q0 fn65) (c_impl_CheckRequest _ _ _ (hs.okow (x := x1_p) (F := F1) Q1) (Flat.any hokx1_r)) ?_
    clear hs; intro w hs
    refine WL.p Q0 (Yl.eqi Q0 Q0) ?_
    refine Qm ?_
    refine WL.split (d := 71) Q0 (fun h3 => ?_) (fun h3 => ?_)
    ·
     replace h3 := of_decide_eq_true h3
     refine WL.skip (d := 71) Q0 Q0 Q0 Q0 ?_
     refine WL.skip (d := 71) Q0 Q0 Q0 Q0 ?_
     refine WL.p Q0 (Yl.pickT Q0 Q0) ?_
     refine Qa ?_
     refine WL.next ?_
     refine WC.ret ?_
     refine At.thenret ?_
     refine fin1' rfl Q0 ?_
     refine RetP.mk hs ?_
     first
      | rfl
      | (clear hs; simp_all; done)
      | (clear hs; have e9 := check_no x1_p.lg x1_r x1_x; simp_all; done)
    ·
     replace h3 := of_decide_eq_false h3
     refine WL.run (d := 71) Q0 Q0 ?_
     refine Qm ?_
     refine WL.run (d := 71) Q0 Q0 ?_
     refine WL.p Q0 (Yl.eqi Q0 Q0) ?_
     refine WL.p Q0 (Yl.pickF Q0 Q0) ?_
     refine Qa ?_
     refine WL.next ?_
     refine WC.ret ?_
     refine At.thenret ?_
     refine fin1' rfl Q0 ?_
     refine RetP.mk hs ?_
     first
      | rfl
      | (clear hs; simp_all; done)
      | (clear hs; have e9 := check_no x1_p.lg x1_r x1_x; simp_all; done)
   ·
    replace h2 := not_eq_false h2
    have e8 : checkResp x1_p.lg x1_r x1_x = 1 := by simpa using h2
    obtain ⟨e1, e2, e3, e4, e5⟩ := check_ok e8
    refine WC.skipn ?_
    refine WC.seq' ?_
    refine WC.quietnJ (fun b => [(131, Bo b)]) (fun b => b = false) [(0, _), (2, _), (3, _), (4, _), (5, _), (6, _), (7, _), (8, _), (13, _), (64, _), (66, _)] mixed Q6 hs ⟨by rfl, by rfl, by rfl, by rfl, by rfl, by rfl, by rfl, by rfl, by rfl, by rfl, by rfl, trivial⟩ ?_ ?_
    ·
     clear hs; intro Qa join
     refine WQ.p Q0 (fun w hs => Yl.fieldAddr fa110_0 Q0) ?_
     refine WQ.p Q0 (fun w hs => Yl.loadB sca3 Q0 hs Q1 Q0) ?_
     refine WQ.p Q0 (fun w hs => Yl.nei Q0 Q0) ?_
     refine WQ.p Q0 (fun w hs => Yl.move Q0) ?_
     refine WQ.split (d := 78) Q0 (fun h3 => ?_) (fun h3 => ?_)
     ·
      replace h3 := not_eq_true h3
      replace h3 := of_decide_eq_false h3
      refine WQ.run (d := 78) Q0 Q0 ?_
      refine WQ.p Q0 (fun w hs => Yl.loadAB agg108 Q0 hs Q1 Q0 Q0) ?_
      refine WQ.run (d := 78) Q0 Q0 ?_
      refine WQ.p Q0 (fun w hs => Yl.fieldAddr fa110_0 Q0) ?_
      refine WQ.run (d := 78) Q0 Q0 ?_
      refine WQ.p Q0 (fun w hs => Yl.loadB sca3 Q0 hs Q1 Q0) ?_
      refine WQ.run (d := 78) Q0 Q0 ?_
      refine WQ.p Q0 (fun w hs => Yl.fieldAddr fa110_1 Q0) ?_
      refine WQ.run (d := 78) Q0 Q0 ?_
      refine WQ.p Q0 (fun w hs => Yl.fieldAddr fa39_0 Q0) ?_
      refine WQ.run (d := 78) Q0 Q0 ?_
      refine WQ.p Q0 (fun w hs => Yl.loadB sca9 Q0 hs Q1 Q0) ?_
      refine WQ.run (d := 78) Q0 Q0 ?_
      refine WQ.callp Q0 (fun w => Yc.func Q0 fn66) (fun w hs => (c_impl_Allows _ _ _ _ (hs.okow (x := x1_p) (F := F1) Q1))) (fun _ _ hs hb => hs.ext hb) ?_
      refine WQ.run (d := 78) Q0 Q0 ?_
      refine WQ.p Q0 (fun w hs => Yl.not Q0) ?_
      refine WQ.p Q0 (fun w hs => Yl.pickT Q0 Q0) ?_
      refine WQ.p Q0 (fun w hs => Yl.move Q0) ?_
      refine WQ.split (d := 88) Q0 (fun h4 => ?_) (fun h4 => ?_)
      ·
       replace h4 := not_eq_true h4
       refine WQ.skip (d := 88) Q0 Q0 Q0 Q0 ?_
       refine WQ.skip (d := 88) Q0 Q0 Q0 Q0 ?_
       refine WQ.skip (d := 88) Q0 Q0 Q0 Q0 ?_
       refine WQ.p Q0 (fun w hs => Yl.pickT Q0 Q0) ?_
       refine WQ.p Q0 (fun w hs => Yl.move Q0) ?_
       refine WQ.skip (d := 93) Q0 Q0 Q0 Q0 ?_
       refine WQ.skip (d := 93) Q0 Q0 Q0 Q0 ?_
       refine WQ.skip (d := 93) Q0 Q0 Q0 Q0 ?_
       refine WQ.skip (d := 93) Q0 Q0 Q0 Q0 ?_
       refine WQ.skip (d := 93) Q0 Q0 Q0 Q0 ?_
       refine WQ.p Q0 (fun w hs => Yl.pickT Q0 Q0) ?_
       refine WQ.p Q0 (fun w hs => Yl.move Q0) ?_
       refine WQ.skip (d := 100) Q0 Q0 Q0 Q0 ?_
       refine WQ.skip (d := 100) Q0 Q0 Q0 Q0 ?_
       refine WQ.skip (d := 100) Q0 Q0 Q0 Q0 ?_
       refine WQ.skip (d := 100) Q0 Q0 Q0 Q0 ?_
       refine WQ.skip (d := 100) Q0 Q0 Q0 Q0 ?_
       refine WQ.skip (d := 100) Q0 Q0 Q0 Q0 ?_
       refine WQ.skip (d := 100) Q0 Q0 Q0 Q0 ?_
       refine WQ.skipU (d := 107) Q0 Q0 Q0 ?_
       refine WQ.skipU (d := 107) Q0 Q0 Q0 ?_
       refine WQ.skipU (d := 107) Q0 Q0 Q0 ?_
       refine WQ.skip (d := 100) Q0 Q0 Q0 Q0 ?_
       refine WQ.skip (d := 100) Q0 Q0 Q0 Q0 ?_
       refine WQ.skipU (d := 112) Q0 Q0 Q0 ?_
       refine WQ.skipU (d := 112) Q0 Q0 Q0 ?_
       refine WQ.skipU (d := 112) Q0 Q0 Q0 ?_
       refine WQ.skip (d := 100) Q0 Q0 Q0 Q0 ?_
       refine WQ.p Q0 (fun w hs => Yl.pickT Q0 Q0) ?_
       refine WQ.p Q0 (fun w hs => Yl.move Q0) ?_
       refine WQ.skip (d := 118) Q0 Q0 Q0 Q0 ?_
       refine WQ.skip (d := 118) Q0 Q0 Q0 Q0 ?_
       refine WQ.skip (d := 118) Q0 Q0 Q0 Q0 ?_
       refine WQ.skip (d := 118) Q0 Q0 Q0 Q0 ?_
       refine WQ.skipU (d := 122) Q0 Q0 Q0 ?_
       refine WQ.skipU (d := 122) Q0 Q0 Q0 ?_
       refine WQ.skipU (d := 122) Q0 Q0 Q0 ?_
       refine WQ.skipU (d := 122) Q0 Q0 Q0 ?_
       refine WQ.skipU (d := 122) Q0 Q0 Q0 ?_
       refine WQ.skipU (d := 122) Q0 Q0 Q0 ?_
       refine WQ.skipU (d := 122) Q0 Q0 Q0 ?_
       refine WQ.skip (d := 118) Q0 Q0 Q0 Q0 ?_
       refine WQ.p Q0 (fun w hs => Yl.pickT Q0 Q0) ?_
       refine WQ.nil fun a ha => join _ _ ?_ ⟨by rfl, trivial⟩ ⟨by rfl, by rfl, by rfl, by rfl, by rfl, by rfl, by rfl, by rfl, by rfl, by rfl, by rfl, trivial⟩ a ha
       (try clear join); (try clear ha); (try clear hs)
       first
        | (simp_all; done)
        | (have e9 := check_ok (by assumption); simp_all; done)
        | (have e9 := check_rg x1_p.lg x1_r x1_x; simp_all; done)
        | (have e9 := check_no x1_p.lg x1_r x1_x; simp_all; done)
      ·
       replace h4 := not_eq_false h4
       refine WQ.run (d := 88) Q0 Q0 ?_
       refine WQ.p Q0 (fun w hs => Yl.fieldAddr fa72_0 Q0) ?_
       refine WQ.run (d := 88) Q0 Q0 ?_
       refine WQ.p Q0 (fun w hs => Yl.loadB sca3 Q0 hs Q1 Q0) ?_
       refine WQ.run (d := 88) Q0 Q0 ?_
       refine WQ.p Q0 (fun w hs => Yl.nei Q0 Q0) ?_
       refine WQ.p Q0 (fun w hs => Yl.pickF Q0 Q0) ?_
       refine WQ.p Q0 (fun w hs => Yl.move Q0) ?_
       refine WQ.split (d := 93) Q0 (fun h5 => ?_) (fun h5 => ?_)
       ·
        replace h5 := not_eq_true h5
        replace h5 := of_decide_eq_false h5
        refine WQ.skip (d := 93) Q0 Q0 Q0 Q0 ?_
        refine WQ.skip (d := 93) Q0 Q0 Q0 Q0 ?_
        refine WQ.skip (d := 93) Q0 Q0 Q0 Q0 ?_
        refine WQ.skip (d := 93) Q0 Q0 Q0 Q0 ?_
        refine WQ.skip (d := 93) Q0 Q0 Q0 Q0 ?_
        refine WQ.p Q0 (fun w hs => Yl.pickT Q0 Q0) ?_
        refine WQ.p Q0 (fun w hs => Yl.move Q0) ?_
        refine WQ.skip (d := 100) Q0 Q0 Q0 Q0 ?_
        refine WQ.skip (d := 100) Q0 Q0 Q0 Q0 ?_
        refine WQ.skip (d := 100) Q0 Q0 Q0 Q0 ?_
        refine WQ.skip (d := 100) Q0 Q0 Q0 Q0 ?_
        refine WQ.skip (d := 100) Q0 Q0 Q0 Q0 ?_
        refine WQ.skip (d := 100) Q0 Q0 Q0 Q0 ?_
        refine WQ.skip (d := 100) Q0 Q0 Q0 Q0 ?_
        refine WQ.skipU (d := 107) Q0 Q0 Q0 ?_
        refine WQ.skipU (d := 107) Q0 Q0 Q0 ?_
        refine WQ.skipU (d := 107) Q0 Q0 Q0 ?_
        refine WQ.skip (d := 100) Q0 Q0 Q0 Q0 ?_
        refine WQ.skip (d := 100) Q0 Q0 Q0 Q0 ?_
        refine WQ.skipU (d := 112) Q0 Q0 Q0 ?_
        refine WQ.skipU (d := 112) Q0 Q0 Q0 ?_
        refine WQ.skipU (d := 112) Q0 Q0 Q0 ?_
        refine WQ.skip (d := 100) Q0 Q0 Q0 Q0 ?_
        refine WQ.p Q0 (fun w hs => Yl.pickT Q0 Q0) ?_
        refine WQ.p Q0 (fun w hs => Yl.move Q0) ?_
        refine WQ.skip (d := 118) Q0 Q0 Q0 Q0 ?_
        refine WQ.skip (d := 118) Q0 Q0 Q0 Q0 ?_
        refine WQ.skip (d := 118) Q0 Q0 Q0 Q0 ?_
        refine WQ.skip (d := 118) Q0 Q0 Q0 Q0 ?_
        refine WQ.skipU (d := 122) Q0 Q0 Q0 ?_
        refine WQ.skipU (d := 122) Q0 Q0 Q0 ?_
        refine WQ.skipU (d := 122) Q0 Q0 Q0 ?_
        refine WQ.skipU (d := 122) Q0 Q0 Q0 ?_
        refine WQ.skipU (d := 122) Q0 Q0 Q0 ?_
        refine WQ.skipU (d := 122) Q0 Q0 Q0 ?_
        refine WQ.skipU (d := 122) Q0 Q0 Q0 ?_
        refine WQ.skip (d := 118) Q0 Q0 Q0 Q0 ?_
        refine WQ.p Q0 (fun w hs => Yl.pickT Q0 Q0) ?_
        refine WQ.nil fun a ha => join _ _ ?_ ⟨by rfl, trivial⟩ ⟨by rfl, by rfl, by rfl, by rfl, by rfl, by rfl, by rfl, by rfl, by rfl, by rfl, by rfl, trivial⟩ a ha
        (try clear join); (try clear ha); (try clear hs)
        first
         | (simp_all; done)
         | (have e9 := check_ok (by assumption); simp_all; done)
         | (have e9 := check_rg x1_p.lg x1_r x1_x; simp_all; done)
         | (have e9 := check_no x1_p.lg x1_r x1_x; simp_all; done)
       ·
        replace h5 := not_eq_false h5
        replace h5 := of_decide_eq_true h5
        refine WQ.run (d := 93) Q0 Q0 ?_
        refine WQ.p Q0 (fun w hs => Yl.loadAB agg72 Q0 hs Q1 Q0 Q0) ?_
        refine WQ.run (d := 93) Q0 Q0 ?_
        refine WQ.p Q0 (fun w hs => Yl.fieldAddr fa110_0 Q0) ?_
        refine WQ.run (d := 93) Q0 Q0 ?_
        refine WQ.p Q0 (fun w hs => Yl.loadB sca3 Q0 hs Q1 Q0) ?_
        refine WQ.run (d := 93) Q0 Q0 ?_
        refine WQ.callp Q0 (fun w => Yc.func Q0 fn67) (fun w hs => (c_spec_FitsKind _ _ _)) (fun _ _ hs hb => hs.ext hb) ?_
        refine WQ.run (d := 93) Q0 Q0 ?_
        refine WQ.p Q0 (fun w hs => Yl.not Q0) ?_
        refine WQ.p Q0 (fun w hs => Yl.pickF Q0 Q0) ?_
        refine WQ.p Q0 (fun w hs => Yl.move Q0) ?_
        refine WQ.split (d := 100) Q0 (fun h6 => ?_) (fun h6 => ?_)
        ·
         replace h6 := not_eq_true h6
         refine WQ.skip (d := 100) Q0 Q0 Q0 Q0 ?_
         refine WQ.skip (d := 100) Q0 Q0 Q0 Q0 ?_
         refine WQ.skip (d := 100) Q0 Q0 Q0 Q0 ?_
         refine WQ.skip (d := 100) Q0 Q0 Q0 Q0 ?_
         refine WQ.skip (d := 100) Q0 Q0 Q0 Q0 ?_
         refine WQ.skip (d := 100) Q0 Q0 Q0 Q0 ?_
         refine WQ.skip (d := 100) Q0 Q0 Q0 Q0 ?_
         refine WQ.skipU (d := 107) Q0 Q0 Q0 ?_
         refine WQ.skipU (d := 107) Q0 Q0 Q0 ?_
         refine WQ.skipU (d := 107) Q0 Q0 Q0 ?_
         refine WQ.skip (d := 100) Q0 Q0 Q0 Q0 ?_
         refine WQ.skip (d := 100) Q0 Q0 Q0 Q0 ?_
         refine WQ.skipU (d := 112) Q0 Q0 Q0 ?_
         refine WQ.skipU (d := 112) Q0 Q0 Q0 ?_
         refine WQ.skipU (d := 112) Q0 Q0 Q0 ?_
         refine WQ.skip (d := 100) Q0 Q0 Q0 Q0 ?_
         refine WQ.p Q0 (fun w hs => Yl.pickT Q0 Q0) ?_
         refine WQ.p Q0 (fun w hs => Yl.move Q0) ?_
         refine WQ.skip (d := 118) Q0 Q0 Q0 Q0 ?_
         refine WQ.skip (d := 118) Q0 Q0 Q0 Q0 ?_
         refine WQ.skip (d := 118) Q0 Q0 Q0 Q0 ?_
         refine WQ.skip (d := 118) Q0 Q0 Q0 Q0 ?_
         refine WQ.skipU (d := 122) Q0 Q0 Q0 ?_
         refine WQ.skipU (d := 122) Q0 Q0 Q0 ?_
         refine WQ.skipU (d := 122) Q0 Q0 Q0 ?_
         refine WQ.skipU (d := 122) Q0 Q0 Q0 ?_
         refine WQ.skipU (d := 122) Q0 Q0 Q0 ?_
         refine WQ.skipU (d := 122) Q0 Q0 Q0 ?_
         refine WQ.skipU (d := 122) Q0 Q0 Q0 ?_
         refine WQ.skip (d := 118) Q0 Q0 Q0 Q0 ?_
         refine WQ.p Q0 (fun w hs => Yl.pickT Q0 Q0) ?_
         refine WQ.nil fun a ha => join _ _ ?_ ⟨by rfl, trivial⟩ ⟨by rfl, by rfl, by rfl, by rfl, by rfl, by rfl, by rfl, by rfl, by rfl, by rfl, by rfl, trivial⟩ a ha
         (try clear join); (try clear ha); (try clear hs)
         first
          | (simp_all; done)
          | (have e9 := check_ok (by assumption); simp_all; done)
          | (have e9 := check_rg x1_p.lg x1_r x1_x; simp_all; done)
          | (have e9 := check_no x1_p.lg x1_r x1_x; simp_all; done)
        ·
         replace h6 := not_eq_false h6
         refine WQ.run (d := 100) Q0 Q0 ?_
         refine WQ.p Q0 (fun w hs => Yl.fieldAddr fa110_2 Q0) ?_
         refine WQ.run (d := 100) Q0 Q0 ?_
         refine WQ.p Q0 (fun w hs => Yl.loadB sca9 Q0 hs Q1 Q0) ?_
         refine WQ.run (d := 100) Q0 Q0 ?_
         refine WQ.p Q0 (fun w hs => Yl.fieldAddr fa110_1 Q0) ?_
         refine WQ.run (d := 100) Q0 Q0 ?_
         refine WQ.p Q0 (fun w hs => Yl.fieldAddr fa39_0 Q0) ?_
         refine WQ.run (d := 100) Q0 Q0 ?_
         refine WQ.p Q0 (fun w hs => Yl.loadB sca9 Q0 hs Q1 Q0) ?_
         refine WQ.run (d := 100) Q0 Q0 ?_
         refine WQ.p Q0 (fun w hs => Yl.nes Q0 Q0) ?_
         refine WQ.run (d := 100) Q0 Q0 ?_
         refine WQ.p Q0 (fun w hs => Yl.move Q0) ?_
         refine WQ.split (d := 107) Q0 (fun h7 => ?_) (fun h7 => ?_)
         ·
          replace h7 := not_eq_true h7
          replace h7 := of_decide_eq_false h7
          refine WQ.run (d := 107) Q0 Q0 ?_
          refine WQ.p Q0 (fun w hs => Yl.fieldAddr fa110_0 Q0) ?_
          refine WQ.run (d := 107) Q0 Q0 ?_
          refine WQ.p Q0 (fun w hs => Yl.loadB sca3 Q0 hs Q1 Q0) ?_
          refine WQ.run (d := 107) Q0 Q0 ?_
          refine WQ.p Q0 (fun w hs => Yl.eqi Q0 Q0) ?_
          refine WQ.run (d := 100) Q0 Q0 ?_
          refine WQ.p Q0 (fun w hs => Yl.pickT Q0 Q0) ?_
          refine WQ.run (d := 100) Q0 Q0 ?_
          refine WQ.p Q0 (fun w hs => Yl.move Q0) ?_
          refine WQ.split (d := 112) Q0 (fun h8 => ?_) (fun h8 => ?_)
          ·
           replace h8 := of_decide_eq_true h8
           refine WQ.run (d := 112) Q0 Q0 ?_
           refine WQ.p Q0 (fun w hs => Yl.fieldAddr fa72_4 Q0) ?_
           refine WQ.run (d := 112) Q0 Q0 ?_
           refine WQ.p Q0 (fun w hs => Yl.loadB sca4 Q0 hs Q1 Q0) ?_
           refine WQ.run (d := 112) Q0 Q0 ?_
           refine WQ.p Q0 (fun w hs => Yl.not Q0) ?_
           refine WQ.run (d := 100) Q0 Q0 ?_
           refine WQ.p Q0 (fun w hs => Yl.pickT Q0 Q0) ?_
           refine WQ.p Q0 (fun w hs => Yl.pickF Q0 Q0) ?_
           refine WQ.p Q0 (fun w hs => Yl.move Q0) ?_
           refine WQ.split (d := 118) Q0 (fun h9 => ?_) (fun h9 => ?_)
           ·
            replace h9 := not_eq_true h9
            refine WQ.skip (d := 118) Q0 Q0 Q0 Q0 ?_
            refine WQ.skip (d := 118) Q0 Q0 Q0 Q0 ?_
            refine WQ.skip (d := 118) Q0 Q0 Q0 Q0 ?_
            refine WQ.skip (d := 118) Q0 Q0 Q0 Q0 ?_
            refine WQ.skipU (d := 122) Q0 Q0 Q0 ?_
            refine WQ.skipU (d := 122) Q0 Q0 Q0 ?_
            refine WQ.skipU (d := 122) Q0 Q0 Q0 ?_
            refine WQ.skipU (d := 122) Q0 Q0 Q0 ?_
            refine WQ.skipU (d := 122) Q0 Q0 Q0 ?_
            refine WQ.skipU (d := 122) Q0 Q0 Q0 ?_
            refine WQ.skipU (d := 122) Q0 Q0 Q0 ?_
            refine WQ.skip (d := 118) Q0 Q0 Q0 Q0 ?_
            refine WQ.p Q0 (fun w hs => Yl.pickT Q0 Q0) ?_
            refine WQ.nil fun a ha => join _ _ ?_ ⟨by rfl, trivial⟩ ⟨by rfl, by rfl, by rfl, by rfl, by rfl, by rfl, by rfl, by rfl, by rfl, by rfl, by rfl, trivial⟩ a ha
            (try clear join); (try clear ha); (try clear hs)
            first
             | (simp_all; done)
             | (have e9 := check_ok (by assumption); simp_all; done)
             | (have e9 := check_rg x1_p.lg x1_r x1_x; simp_all; done)
             | (have e9 := check_no x1_p.lg x1_r x1_x; simp_all; done)
           ·
            replace h9 := not_eq_false h9
            refine WQ.run (d := 118) Q0 Q0 ?_
            refine WQ.p Q0 (fun w hs => Yl.fieldAddr fa110_3 Q0) ?_
            refine WQ.run (d := 118) Q0 Q0 ?_
            refine WQ.p Q0 (fun w hs => Yl.loadB sca9 Q0 hs Q1 Q0) ?_
            refine WQ.run (d := 118) Q0 Q0 ?_
            refine WQ.p Q0 (fun w hs => Yl.nes Q0 Q0) ?_
            refine WQ.run (d := 118) Q0 Q0 ?_
            refine WQ.p Q0 (fun w hs => Yl.move Q0) ?_
            refine WQ.split (d := 122) Q0 (fun h10 => ?_) (fun h10 => ?_)
            ·
             replace h10 := not_eq_true h10
             replace h10 := of_decide_eq_false h10
             refine WQ.run (d := 122) Q0 Q0 ?_
             refine WQ.p Q0 (fun w hs => Yl.fieldAddr fa110_3 Q0) ?_
             refine WQ.run (d := 122) Q0 Q0 ?_
             refine WQ.p Q0 (fun w hs => Yl.loadB sca9 Q0 hs Q1 Q0) ?_
             refine WQ.run (d := 122) Q0 Q0 ?_
             refine WQ.p Q0 (fun w hs => Yl.fieldAddr fa72_2 Q0) ?_
             refine WQ.run (d := 122) Q0 Q0 ?_
             refine WQ.p Q0 (fun w hs => Yl.loadB sca9 Q0 hs Q1 Q0) ?_
             refine WQ.run (d := 122) Q0 Q0 ?_
             refine WQ.callp Q0 (fun w => Yc.func Q0 fn69) (fun w hs => (c_spec_DigestOf _ _ (Flat.any hokx1_x).body (by simp only [TResponse.size] at *; omega))) (fun _ _ hs hb => hs.ext hb) ?_
             refine WQ.run (d := 122) Q0 Q0 ?_
             refine WQ.callp Q0 (fun w => Yc.func Q0 fn68) (fun w hs => (c_spec_FormatInt _ _ (digestN_wf _))) (fun _ _ hs hb => hs.ext hb) ?_
             refine WQ.run (d := 122) Q0 Q0 ?_
             refine WQ.p Q0 (fun w hs => Yl.nes Q0 Q0) ?_
             refine WQ.run (d := 118) Q0 Q0 ?_
             refine WQ.p Q0 (fun w hs => Yl.pickT Q0 Q0) ?_
             refine WQ.p Q0 (fun w hs => Yl.pickF Q0 Q0) ?_
             refine WQ.nil fun a ha => join _ _ ?_ ⟨by rfl, trivial⟩ ⟨by rfl, by rfl, by rfl, by rfl, by rfl, by rfl, by rfl, by rfl, by rfl, by rfl, by rfl, trivial⟩ a ha
             (try clear join); (try clear ha); (try clear hs)
             first
              | (simp_all; done)
              | (have e9 := check_ok (by assumption); simp_all; done)
              | (have e9 := check_rg x1_p.lg x1_r x1_x; simp_all; done)
              | (have e9 := check_no x1_p.lg x1_r x1_x; simp_all; done)
            ·
             replace h10 := not_eq_false h10
             replace h10 := of_decide_eq_true h10
             refine WQ.skip (d := 122) Q0 Q0 Q0 Q0 ?_
             refine WQ.skip (d := 122) Q0 Q0 Q0 Q0 ?_
             refine WQ.skip (d := 122) Q0 Q0 Q0 Q0 ?_
             refine WQ.skip (d := 122) Q0 Q0 Q0 Q0 ?_
             refine WQ.skip (d := 122) Q0 Q0 Q0 Q0 ?_
             refine WQ.skip (d := 122) Q0 Q0 Q0 Q0 ?_
             refine WQ.skip (d := 122) Q0 Q0 Q0 Q0 ?_
             refine WQ.run (d := 118) Q0 Q0 ?_
             refine WQ.p Q0 (fun w hs => Yl.pickF Q0 Q0) ?_
             refine WQ.p Q0 (fun w hs => Yl.pickF Q0 Q0) ?_
             refine WQ.nil fun a ha => join _ _ ?_ ⟨by rfl, trivial⟩ ⟨by rfl, by rfl, by rfl, by rfl, by rfl, by rfl, by rfl, by rfl, by rfl, by rfl, by rfl, trivial⟩ a ha
             rfl
          ·
           replace h8 := of_decide_eq_false h8
           refine WQ.skip (d := 112) Q0 Q0 Q0 Q0 ?_
           refine WQ.skip (d := 112) Q0 Q0 Q0 Q0 ?_
           refine WQ.skip (d := 112) Q0 Q0 Q0 Q0 ?_
           refine WQ.run (d := 100) Q0 Q0 ?_
           refine WQ.p Q0 (fun w hs => Yl.pickF Q0 Q0) ?_
           refine WQ.p Q0 (fun w hs => Yl.pickF Q0 Q0) ?_
           refine WQ.p Q0 (fun w hs => Yl.move Q0) ?_
           refine WQ.run (d := 118) Q0 Q0 ?_
           refine WQ.p Q0 (fun w hs => Yl.fieldAddr fa110_3 Q0) ?_
           refine WQ.run (d := 118) Q0 Q0 ?_
           refine WQ.p Q0 (fun w hs => Yl.loadB sca9 Q0 hs Q1 Q0) ?_
           refine WQ.run (d := 118) Q0 Q0 ?_
           refine WQ.p Q0 (fun w hs => Yl.nes Q0 Q0) ?_
           refine WQ.run (d := 118) Q0 Q0 ?_
           refine WQ.p Q0 (fun w hs => Yl.move Q0) ?_
           refine WQ.split (d := 122) Q0 (fun h9 => ?_) (fun h9 => ?_)
           ·
            replace h9 := not_eq_true h9
            replace h9 := of_decide_eq_false h9
            refine WQ.run (d := 122) Q0 Q0 ?_
            refine WQ.p Q0 (fun w hs => Yl.fieldAddr fa110_3 Q0) ?_
            refine WQ.run (d := 122) Q0 Q0 ?_
            refine WQ.p Q0 (fun w hs => Yl.loadB sca9 Q0 hs Q1 Q0) ?_
            refine WQ.run (d := 122) Q0 Q0 ?_
            refine WQ.p Q0 (fun w hs => Yl.fieldAddr fa72_2 Q0) ?_
            refine WQ.run (d := 122) Q0 Q0 ?_
            refine WQ.p Q0 (fun w hs => Yl.loadB sca9 Q0 hs Q1 Q0) ?_
            refine WQ.run (d := 122) Q0 Q0 ?_
            refine WQ.callp Q0 (fun w => Yc.func Q0 fn69) (fun w hs => (c_spec_DigestOf _ _ (Flat.any hokx1_x).body (by simp only [TResponse.size] at *; omega))) (fun _ _ hs hb => hs.ext hb) ?_
            refine WQ.run (d := 122) Q0 Q0 ?_
            refine WQ.callp Q0 (fun w => Yc.func Q0 fn68) (fun w hs => (c_spec_FormatInt _ _ (digestN_wf _))) (fun _ _ hs hb => hs.ext hb) ?_
            refine WQ.run (d := 122) Q0 Q0 ?_
            refine WQ.p Q0 (fun w hs => Yl.nes Q0 Q0) ?_
            refine WQ.run (d := 118) Q0 Q0 ?_
            refine WQ.p Q0 (fun w hs => Yl.pickT Q0 Q0) ?_
            refine WQ.p Q0 (fun w hs => Yl.pickF Q0 Q0) ?_
            refine WQ.nil fun a ha => join _ _ ?_ ⟨by rfl, trivial⟩ ⟨by rfl, by rfl, by rfl, by rfl, by rfl, by rfl, by rfl, by rfl, by rfl, by rfl, by rfl, trivial⟩ a ha
            (try clear join); (try clear ha); (try clear hs)
            first
             | (simp_all; done)
             | (have e9 := check_ok (by assumption); simp_all; done)
             | (have e9 := check_rg x1_p.lg x1_r x1_x; simp_all; done)
             | (have e9 := check_no x1_p.lg x1_r x1_x; simp_all; done)
           ·
            replace h9 := not_eq_false h9
            replace h9 := of_decide_eq_true h9
            refine WQ.skip (d := 122) Q0 Q0 Q0 Q0 ?_
            refine WQ.skip (d := 122) Q0 Q0 Q0 Q0 ?_
            refine WQ.skip (d := 122) Q0 Q0 Q0 Q0 ?_
            refine WQ.skip (d := 122) Q0 Q0 Q0 Q0 ?_
            refine WQ.skip (d := 122) Q0 Q0 Q0 Q0 ?_
            refine WQ.skip (d := 122) Q0 Q0 Q0 Q0 ?_
            refine WQ.skip (d := 122) Q0 Q0 Q0 Q0 ?_
            refine WQ.run (d := 118) Q0 Q0 ?_
            refine WQ.p Q0 (fun w hs => Yl.pickF Q0 Q0) ?_
            refine WQ.p Q0 (fun w hs => Yl.pickF Q0 Q0) ?_
            refine WQ.nil fun a ha => join _ _ ?_ ⟨by rfl, trivial⟩ ⟨by rfl, by rfl, by rfl, by rfl, by rfl, by rfl, by rfl, by rfl, by rfl, by rfl, by rfl, trivial⟩ a ha
            rfl
         ·
          replace h7 := not_eq_false h7
          replace h7 := of_decide_eq_true h7
          refine WQ.skip (d := 107) Q0 Q0 Q0 Q0 ?_
          refine WQ.skip (d := 107) Q0 Q0 Q0 Q0 ?_
          refine WQ.skip (d := 107) Q0 Q0 Q0 Q0 ?_
          refine WQ.run (d := 100) Q0 Q0 ?_
          refine WQ.p Q0 (fun w hs => Yl.pickF Q0 Q0) ?_
          refine WQ.run (d := 100) Q0 Q0 ?_
          refine WQ.p Q0 (fun w hs => Yl.move Q0) ?_
          refine WQ.skip (d := 112) Q0 Q0 Q0 Q0 ?_
          refine WQ.skip (d := 112) Q0 Q0 Q0 Q0 ?_
          refine WQ.skip (d := 112) Q0 Q0 Q0 Q0 ?_
          refine WQ.run (d := 100) Q0 Q0 ?_
          refine WQ.p Q0 (fun w hs => Yl.pickF Q0 Q0) ?_
          refine WQ.p Q0 (fun w hs => Yl.pickF Q0 Q0) ?_
          refine WQ.p Q0 (fun w hs => Yl.move Q0) ?_
          refine WQ.run (d := 118) Q0 Q0 ?_
          refine WQ.p Q0 (fun w hs => Yl.fieldAddr fa110_3 Q0) ?_
          refine WQ.run (d := 118) Q0 Q0 ?_
          refine WQ.p Q0 (fun w hs => Yl.loadB sca9 Q0 hs Q1 Q0) ?_
          refine WQ.run (d := 118) Q0 Q0 ?_
          refine WQ.p Q0 (fun w hs => Yl.nes Q0 Q0) ?_
          refine WQ.run (d := 118) Q0 Q0 ?_
          refine WQ.p Q0 (fun w hs => Yl.move Q0) ?_
          refine WQ.split (d := 122) Q0 (fun h8 => ?_) (fun h8 => ?_)
          ·
           replace h8 := not_eq_true h8
           replace h8 := of_decide_eq_false h8
           refine WQ.run (d := 122) Q0 Q0 ?_
           refine WQ.p Q0 (fun w hs => Yl.fieldAddr fa110_3 Q0) ?_
           refine WQ.run (d := 122) Q0 Q0 ?_
           refine WQ.p Q0 (fun w hs => Yl.loadB sca9 Q0 hs Q1 Q0) ?_
           refine WQ.run (d := 122) Q0 Q0 ?_
           refine WQ.p Q0 (fun w hs => Yl.fieldAddr fa72_2 Q0) ?_
           refine WQ.run (d := 122) Q0 Q0 ?_
           refine WQ.p Q0 (fun w hs => Yl.loadB sca9 Q0 hs Q1 Q0) ?_
           refine WQ.run (d := 122) Q0 Q0 ?_
           refine WQ.callp Q0 (fun w => Yc.func Q0 fn69) (fun w hs => (c_spec_DigestOf _ _ (Flat.any hokx1_x).body (by simp only [TResponse.size] at *; omega))) (fun _ _ hs hb => hs.ext hb) ?_
           refine WQ.run (d := 122) Q0 Q0 ?_
           refine WQ.callp Q0 (fun w => Yc.func Q0 fn68) (fun w hs => (c_spec_FormatInt _ _ (digestN_wf _))) (fun _ _ hs hb => hs.ext hb) ?_
           refine WQ.run (d := 122) Q0 Q0 ?_
           refine WQ.p Q0 (fun w hs => Yl.nes Q0 Q0) ?_
           refine WQ.run (d := 118) Q0 Q0 ?_
           refine WQ.p Q0 (fun w hs => Yl.pickT Q0 Q0) ?_
           refine WQ.p Q0 (fun w hs => Yl.pickF Q0 Q0) ?_
           refine WQ.nil fun a ha => join _ _ ?_ ⟨by rfl, trivial⟩ ⟨by rfl, by rfl, by rfl, by rfl, by rfl, by rfl, by rfl, by rfl, by rfl, by rfl, by rfl, trivial⟩ a ha
           (try clear join); (try clear ha); (try clear hs)
           first
            | (simp_all; done)
            | (have e9 := check_ok (by assumption); simp_all; done)
            | (have e9 := check_rg x1_p.lg x1_r x1_x; simp_all; done)
            | (have e9 := check_no x1_p.lg x1_r x1_x; simp_all; done)
          ·
           replace h8 := not_eq_false h8
           replace h8 := of_decide_eq_true h8
           refine WQ.skip (d := 122) Q0 Q0 Q0 Q0 ?_
           refine WQ.skip (d := 122) Q0 Q0 Q0 Q0 ?_
           refine WQ.skip (d := 122) Q0 Q0 Q0 Q0 ?_
           refine WQ.skip (d := 122) Q0 Q0 Q0 Q0 ?_
           refine WQ.skip (d := 122) Q0 Q0 Q0 Q0 ?_
           refine WQ.skip (d := 122) Q0 Q0 Q0 Q0 ?_
           refine WQ.skip (d := 122) Q0 Q0 Q0 Q0 ?_
           refine WQ.run (d := 118) Q0 Q0 ?_
           refine WQ.p Q0 (fun w hs => Yl.pickF Q0 Q0) ?_
           refine WQ.p Q0 (fun w hs => Yl.pickF Q0 Q0) ?_
           refine WQ.nil fun a ha => join _ _ ?_ ⟨by rfl, trivial⟩ ⟨by rfl, by rfl, by rfl, by rfl, by rfl, by rfl, by rfl, by rfl, by rfl, by rfl, by rfl, trivial⟩ a ha
           rfl
     ·
      replace h3 := not_eq_false h3
      replace h3 := of_decide_eq_true h3
      refine WQ.skip (d := 78) Q0 Q0 Q0 Q0 ?_
      refine WQ.skip (d := 78) Q0 Q0 Q0 Q0 ?_
      refine WQ.skip (d := 78) Q0 Q0 Q0 Q0 ?_
      refine WQ.skip (d := 78) Q0 Q0 Q0 Q0 ?_
      refine WQ.skip (d := 78) Q0 Q0 Q0 Q0 ?_
      refine WQ.skip (d := 78) Q0 Q0 Q0 Q0 ?_
      refine WQ.skip (d := 78) Q0 Q0 Q0 Q0 ?_
      refine WQ.skip (d := 78) Q0 Q0 Q0 Q0 ?_
      refine WQ.p Q0 (fun w hs => Yl.pickF Q0 Q0) ?_
      refine WQ.p Q0 (fun w hs => Yl.move Q0) ?_
      refine WQ.run (d := 88) Q0 Q0 ?_
      refine WQ.p Q0 (fun w hs => Yl.fieldAddr fa72_0 Q0) ?_
      refine WQ.run (d := 88) Q0 Q0 ?_
      refine WQ.p Q0 (fun w hs => Yl.loadB sca3 Q0 hs Q1 Q0) ?_
      refine WQ.run (d := 88) Q0 Q0 ?_
      refine WQ.p Q0 (fun w hs => Yl.nei Q0 Q0) ?_
      refine WQ.p Q0 (fun w hs => Yl.pickF Q0 Q0) ?_
      refine WQ.p Q0 (fun w hs => Yl.move Q0) ?_
      refine WQ.split (d := 93) Q0 (fun h4 => ?_) (fun h4 => ?_)
      ·
       replace h4 := not_eq_true h4
       replace h4 := of_decide_eq_false h4
       refine WQ.skip (d := 93) Q0 Q0 Q0 Q0 ?_
       refine WQ.skip (d := 93) Q0 Q0 Q0 Q0 ?_
       refine WQ.skip (d := 93) Q0 Q0 Q0 Q0 ?_
       refine WQ.skip (d := 93) Q0 Q0 Q0 Q0 ?_
       refine WQ.skip (d := 93) Q0 Q0 Q0 Q0 ?_
       refine WQ.p Q0 (fun w hs => Yl.pickT Q0 Q0) ?_
       refine WQ.p Q0 (fun w hs => Yl.move Q0) ?_
       refine WQ.skip (d := 100) Q0 Q0 Q0 Q0 ?_
       refine WQ.skip (d := 100) Q0 Q0 Q0 Q0 ?_
       refine WQ.skip (d := 100) Q0 Q0 Q0 Q0 ?_
       refine WQ.skip (d := 100) Q0 Q0 Q0 Q0 ?_
       refine WQ.skip (d := 100) Q0 Q0 Q0 Q0 ?_
       refine WQ.skip (d := 100) Q0 Q0 Q0 Q0 ?_
       refine WQ.skip (d := 100) Q0 Q0 Q0 Q0 ?_
       refine WQ.skipU (d := 107) Q0 Q0 Q0 ?_
       refine WQ.skipU (d := 107) Q0 Q0 Q0 ?_
       refine WQ.skipU (d := 107) Q0 Q0 Q0 ?_
       refine WQ.skip (d := 100) Q0 Q0 Q0 Q0 ?_
       refine WQ.skip (d := 100) Q0 Q0 Q0 Q0 ?_
       refine WQ.skipU (d := 112) Q0 Q0 Q0 ?_
       refine WQ.skipU (d := 112) Q0 Q0 Q0 ?_
       refine WQ.skipU (d := 112) Q0 Q0 Q0 ?_
       refine WQ.skip (d := 100) Q0 Q0 Q0 Q0 ?_
       refine WQ.p Q0 (fun w hs => Yl.pickT Q0 Q0) ?_
       refine WQ.p Q0 (fun w hs => Yl.move Q0) ?_
       refine WQ.skip (d := 118) Q0 Q0 Q0 Q0 ?_
       refine WQ.skip (d := 118) Q0 Q0 Q0 Q0 ?_
       refine WQ.skip (d := 118) Q0 Q0 Q0 Q0 ?_
       refine WQ.skip (d := 118) Q0 Q0 Q0 Q0 ?_
       refine WQ.skipU (d := 122) Q0 Q0 Q0 ?_
       refine WQ.skipU (d := 122) Q0 Q0 Q0 ?_
       refine WQ.skipU (d := 122) Q0 Q0 Q0 ?_
       refine WQ.skipU (d := 122) Q0 Q0 Q0 ?_
       refine WQ.skipU (d := 122) Q0 Q0 Q0 ?_
       refine WQ.skipU (d := 122) Q0 Q0 Q0 ?_
       refine WQ.skipU (d := 122) Q0 Q0 Q0 ?_
       refine WQ.skip (d := 118) Q0 Q0 Q0 Q0 ?_
       refine WQ.p Q0 (fun w hs => Yl.pickT Q0 Q0) ?_
       refine WQ.nil fun a ha => join _ _ ?_ ⟨by rfl, trivial⟩ ⟨by rfl, by rfl, by rfl, by rfl, by rfl, by rfl, by rfl, by rfl, by rfl, by rfl, by rfl, trivial⟩ a ha
       (try clear join); (try clear ha); (try clear hs)
       first
        | (simp_all; done)
        | (have e9 := check_ok (by assumption); simp_all; done)
        | (have e9 := check_rg x1_p.lg x1_r x1_x; simp_all; done)
        | (have e9 := check_no x1_p.lg x1_r x1_x; simp_all; done)
      ·
       replace h4 := not_eq_false h4
       replace h4 := of_decide_eq_true h4
       refine WQ.run (d := 93) Q0 Q0 ?_
       refine WQ.p Q0 (fun w hs => Yl.loadAB agg72 Q0 hs Q1 Q0 Q0) ?_
       refine WQ.run (d := 93) Q0 Q0 ?_
       refine WQ.p Q0 (fun w hs => Yl.fieldAddr fa110_0 Q0) ?_
       refine WQ.run (d := 93) Q0 Q0 ?_
       refine WQ.p Q0 (fun w hs => Yl.loadB sca3 Q0 hs Q1 Q0) ?_
       refine WQ.run (d := 93) Q0 Q0 ?_
       refine WQ.callp Q0 (fun w => Yc.func Q0 fn67) (fun w hs => (c_spec_FitsKind _ _ _)) (fun _ _ hs hb => hs.ext hb) ?_
       refine WQ.run (d := 93) Q0 Q0 ?_
       refine WQ.p Q0 (fun w hs => Yl.not Q0) ?_
       refine WQ.p Q0 (fun w hs => Yl.pickF Q0 Q0) ?_
       refine WQ.p Q0 (fun w hs => Yl.move Q0) ?_
       refine WQ.split (d := 100) Q0 (fun h5 => ?_) (fun h5 => ?_)
       ·
        replace h5 := not_eq_true h5
        refine WQ.skip (d := 100) Q0 Q0 Q0 Q0 ?_
        refine WQ.skip (d := 100) Q0 Q0 Q0 Q0 ?_
        refine WQ.skip (d := 100) Q0 Q0 Q0 Q0 ?_
        refine WQ.skip (d := 100) Q0 Q0 Q0 Q0 ?_
        refine WQ.skip (d := 100) Q0 Q0 Q0 Q0 ?_
        refine WQ.skip (d := 100) Q0 Q0 Q0 Q0 ?_
        refine WQ.skip (d := 100) Q0 Q0 Q0 Q0 ?_
        refine WQ.skipU (d := 107) Q0 Q0 Q0 ?_
        refine WQ.skipU (d := 107) Q0 Q0 Q0 ?_
        refine WQ.skipU (d := 107) Q0 Q0 Q0 ?_
        refine WQ.skip (d := 100) Q0 Q0 Q0 Q0 ?_
        refine WQ.skip (d := 100) Q0 Q0 Q0 Q0 ?_
        refine WQ.skipU (d := 112) Q0 Q0 Q0 ?_
        refine WQ.skipU (d := 112) Q0 Q0 Q0 ?_
        refine WQ.skipU (d := 112) Q0 Q0 Q0 ?_
        refine WQ.skip (d := 100) Q0 Q0 Q0 Q0 ?_
        refine WQ.p Q0 (fun w hs => Yl.pickT Q0 Q0) ?_
        refine WQ.p Q0 (fun w hs => Yl.move Q0) ?_
        refine WQ.skip (d := 118) Q0 Q0 Q0 Q0 ?_
        refine WQ.skip (d := 118) Q0 Q0 Q0 Q0 ?_
        refine WQ.skip (d := 118) Q0 Q0 Q0 Q0 ?_
        refine WQ.skip (d := 118) Q0 Q0 Q0 Q0 ?_
        refine WQ.skipU (d := 122) Q0 Q0 Q0 ?_
        refine WQ.skipU (d := 122) Q0 Q0 Q0 ?_
        refine WQ.skipU (d := 122) Q0 Q0 Q0 ?_
        refine WQ.skipU (d := 122) Q0 Q0 Q0 ?_
        refine WQ.skipU (d := 122) Q0 Q0 Q0 ?_
        refine WQ.skipU (d := 122) Q0 Q0 Q0 ?_
        refine WQ.skipU (d := 122) Q0 Q0 Q0 ?_
        refine WQ.skip (d := 118) Q0 Q0 Q0 Q0 ?_
        refine WQ.p Q0 (fun w hs => Yl.pickT Q0 Q0) ?_
        refine WQ.nil fun a ha => join _ _ ?_ ⟨by rfl, trivial⟩ ⟨by rfl, by rfl, by rfl, by rfl, by rfl, by rfl, by rfl, by rfl, by rfl, by rfl, by rfl, trivial⟩ a ha
        (try clear join); (try clear ha); (try clear hs)
        first
         | (simp_all; done)
         | (have e9 := check_ok (by assumption); simp_all; done)
         | (have e9 := check_rg x1_p.lg x1_r x1_x; simp_all; done)
         | (have e9 := check_no x1_p.lg x1_r x1_x; simp_all; done)
       ·
        replace h5 := not_eq_false h5
        refine WQ.run (d := 100) Q0 Q0 ?_
        refine WQ.p Q0 (fun w hs => Yl.fieldAddr fa110_2 Q0) ?_
        refine WQ.run (d := 100) Q0 Q0 ?_
        refine WQ.p Q0 (fun w hs => Yl.loadB sca9 Q0 hs Q1 Q0) ?_
        refine WQ.run (d := 100) Q0 Q0 ?_
        refine WQ.p Q0 (fun w hs => Yl.fieldAddr fa110_1 Q0) ?_
        refine WQ.run (d := 100) Q0 Q0 ?_
        refine WQ.p Q0 (fun w hs => Yl.fieldAddr fa39_0 Q0) ?_
        refine WQ.run (d := 100) Q0 Q0 ?_
        refine WQ.p Q0 (fun w hs => Yl.loadB sca9 Q0 hs Q1 Q0) ?_
        refine WQ.run (d := 100) Q0 Q0 ?_
        refine WQ.p Q0 (fun w hs => Yl.nes Q0 Q0) ?_
        refine WQ.run (d := 100) Q0 Q0 ?_
        refine WQ.p Q0 (fun w hs => Yl.move Q0) ?_
        refine WQ.split (d := 107) Q0 (fun h6 => ?_) (fun h6 => ?_)
        ·
         replace h6 := not_eq_true h6
         replace h6 := of_decide_eq_false h6
         refine WQ.run (d := 107) Q0 Q0 ?_
         refine WQ.p Q0 (fun w hs => Yl.fieldAddr fa110_0 Q0) ?_
         refine WQ.run (d := 107) Q0 Q0 ?_
         refine WQ.p Q0 (fun w hs => Yl.loadB sca3 Q0 hs Q1 Q0) ?_
         refine WQ.run (d := 107) Q0 Q0 ?_
         refine WQ.p Q0 (fun w hs => Yl.eqi Q0 Q0) ?_
         refine WQ.run (d := 100) Q0 Q0 ?_
         refine WQ.p Q0 (fun w hs => Yl.pickT Q0 Q0) ?_
         refine WQ.run (d := 100) Q0 Q0 ?_
         refine WQ.p Q0 (fun w hs => Yl.move Q0) ?_
         refine WQ.split (d := 112) Q0 (fun h7 => ?_) (fun h7 => ?_)
         ·
          replace h7 := of_decide_eq_true h7
          refine WQ.run (d := 112) Q0 Q0 ?_
          refine WQ.p Q0 (fun w hs => Yl.fieldAddr fa72_4 Q0) ?_
          refine WQ.run (d := 112) Q0 Q0 ?_
          refine WQ.p Q0 (fun w hs => Yl.loadB sca4 Q0 hs Q1 Q0) ?_
          refine WQ.run (d := 112) Q0 Q0 ?_
          refine WQ.p Q0 (fun w hs => Yl.not Q0) ?_
          refine WQ.run (d := 100) Q0 Q0 ?_
          refine WQ.p Q0 (fun w hs => Yl.pickT Q0 Q0) ?_
          refine WQ.p Q0 (fun w hs => Yl.pickF Q0 Q0) ?_
          refine WQ.p Q0 (fun w hs => Yl.move Q0) ?_
          refine WQ.split (d := 118) Q0 (fun h8 => ?_) (fun h8 => ?_)
          ·
           replace h8 := not_eq_true h8
           refine WQ.skip (d := 118) Q0 Q0 Q0 Q0 ?_
           refine WQ.skip (d := 118) Q0 Q0 Q0 Q0 ?_
           refine WQ.skip (d := 118) Q0 Q0 Q0 Q0 ?_
           refine WQ.skip (d := 118) Q0 Q0 Q0 Q0 ?_
           refine WQ.skipU (d := 122) Q0 Q0 Q0 ?_
           refine WQ.skipU (d := 122) Q0 Q0 Q0 ?_
           refine WQ.skipU (d := 122) Q0 Q0 Q0 ?_
           refine WQ.skipU (d := 122) Q0 Q0 Q0 ?_
           refine WQ.skipU (d := 122) Q0 Q0 Q0 ?_
           refine WQ.skipU (d := 122) Q0 Q0 Q0 ?_
           refine WQ.skipU (d := 122) Q0 Q0 Q0 ?_
           refine WQ.skip (d := 118) Q0 Q0 Q0 Q0 ?_
           refine WQ.p Q0 (fun w hs => Yl.pickT Q0 Q0) ?_
           refine WQ.nil fun a ha => join _ _ ?_ ⟨by rfl, trivial⟩ ⟨by rfl, by rfl, by rfl, by rfl, by rfl, by rfl, by rfl, by rfl, by rfl, by rfl, by rfl, trivial⟩ a ha
           (try clear join); (try clear ha); (try clear hs)
           first
            | (simp_all; done)
            | (have e9 := check_ok (by assumption); simp_all; done)
            | (have e9 := check_rg x1_p.lg x1_r x1_x; simp_all; done)
            | (have e9 := check_no x1_p.lg x1_r x1_x; simp_all; done)
          ·
           replace h8 := not_eq_false h8
           refine WQ.run (d := 118) Q0 Q0 ?_
           refine WQ.p Q0 (fun w hs => Yl.fieldAddr fa110_3 Q0) ?_
           refine WQ.run (d := 118) Q0 Q0 ?_
           refine WQ.p Q0 (fun w hs => Yl.loadB sca9 Q0 hs Q1 Q0) ?_
           refine WQ.run (d := 118) Q0 Q0 ?_
           refine WQ.p Q0 (fun w hs => Yl.nes Q0 Q0) ?_
           refine WQ.run (d := 118) Q0 Q0 ?_
           refine WQ.p Q0 (fun w hs => Yl.move Q0) ?_
           refine WQ.split (d := 122) Q0 (fun h9 => ?_) (fun h9 => ?_)
           ·
            replace h9 := not_eq_true h9
            replace h9 := of_decide_eq_false h9
            refine WQ.run (d := 122) Q0 Q0 ?_
            refine WQ.p Q0 (fun w hs => Yl.fieldAddr fa110_3 Q0) ?_
            refine WQ.run (d := 122) Q0 Q0 ?_
            refine WQ.p Q0 (fun w hs => Yl.loadB sca9 Q0 hs Q1 Q0) ?_
            refine WQ.run (d := 122) Q0 Q0 ?_
            refine WQ.p Q0 (fun w hs => Yl.fieldAddr fa72_2 Q0) ?_
            refine WQ.run (d := 122) Q0 Q0 ?_
            refine WQ.p Q0 (fun w hs => Yl.loadB sca9 Q0 hs Q1 Q0) ?_
            refine WQ.run (d := 122) Q0 Q0 ?_
            refine WQ.callp Q0 (fun w => Yc.func Q0 fn69) (fun w hs => (c_spec_DigestOf _ _ (Flat.any hokx1_x).body (by simp only [TResponse.size] at *; omega))) (fun _ _ hs hb => hs.ext hb) ?_
            refine WQ.run (d := 122) Q0 Q0 ?_
            refine WQ.callp Q0 (fun w => Yc.func Q0 fn68) (fun w hs => (c_spec_FormatInt _ _ (digestN_wf _))) (fun _ _ hs hb => hs.ext hb) ?_
            refine WQ.run (d := 122) Q0 Q0 ?_
            refine WQ.p Q0 (fun w hs => Yl.nes Q0 Q0) ?_
            refine WQ.run (d := 118) Q0 Q0 ?_
            refine WQ.p Q0 (fun w hs => Yl.pickT Q0 Q0) ?_
            refine WQ.p Q0 (fun w hs => Yl.pickF Q0 Q0) ?_
            refine WQ.nil fun a ha => join _ _ ?_ ⟨by rfl, trivial⟩ ⟨by rfl, by rfl, by rfl, by rfl, by rfl, by rfl, by rfl, by rfl, by rfl, by rfl, by rfl, trivial⟩ a ha
            (try clear join); (try clear ha); (try clear hs)
            first
             | (simp_all; done)
             | (have e9 := check_ok (by assumption); simp_all; done)
             | (have e9 := check_rg x1_p.lg x1_r x1_x; simp_all; done)
             | (have e9 := check_no x1_p.lg x1_r x1_x; simp_all; done)
           ·
            replace h9 := not_eq_false h9
            replace h9 := of_decide_eq_true h9
            refine WQ.skip (d := 122) Q0 Q0 Q0 Q0 ?_
            refine WQ.skip (d := 122) Q0 Q0 Q0 Q0 ?_
            refine WQ.skip (d := 122) Q0 Q0 Q0 Q0 ?_
            refine WQ.skip (d := 122) Q0 Q0 Q0 Q0 ?_
            refine WQ.skip (d := 122) Q0 Q0 Q0 Q0 ?_
            refine WQ.skip (d := 122) Q0 Q0 Q0 Q0 ?_
            refine WQ.skip (d := 122) Q0 Q0 Q0 Q0 ?_
            refine WQ.run (d := 118) Q0 Q0 ?_
            refine WQ.p Q0 (fun w hs => Yl.pickF Q0 Q0) ?_
            refine WQ.p Q0 (fun w hs => Yl.pickF Q0 Q0) ?_
            refine WQ.nil fun a ha => join _ _ ?_ ⟨by rfl, trivial⟩ ⟨by rfl, by rfl, by rfl, by rfl, by rfl, by rfl, by rfl, by rfl, by rfl, by rfl, by rfl, trivial⟩ a ha
            rfl
         ·
          replace h7 := of_decide_eq_false h7
          refine WQ.skip (d := 112) Q0 Q0 Q0 Q0 ?_
          refine WQ.skip (d := 112) Q0 Q0 Q0 Q0 ?_
          refine WQ.skip (d := 112) Q0 Q0 Q0 Q0 ?_
          refine WQ.run (d := 100) Q0 Q0 ?_
          refine WQ.p Q0 (fun w hs => Yl.pickF Q0 Q0) ?_
          refine WQ.p Q0 (fun w hs => Yl.pickF Q0 Q0) ?_
          refine WQ.p Q0 (fun w hs => Yl.move Q0) ?_
          refine WQ.run (d := 118) Q0 Q0 ?_
          refine WQ.p Q0 (fun w hs => Yl.fieldAddr fa110_3 Q0) ?_
          refine WQ.run (d := 118) Q0 Q0 ?_
          refine WQ.p Q0 (fun w hs => Yl.loadB sca9 Q0 hs Q1 Q0) ?_
          refine WQ.run (d := 118) Q0 Q0 ?_
          refine WQ.p Q0 (fun w hs => Yl.nes Q0 Q0) ?_
          refine WQ.run (d := 118) Q0 Q0 ?_
          refine WQ.p Q0 (fun w hs => Yl.move Q0) ?_
          refine WQ.split (d := 122) Q0 (fun h8 => ?_) (fun h8 => ?_)
          ·
           replace h8 := not_eq_true h8
           replace h8 := of_decide_eq_false h8
           refine WQ.run (d := 122) Q0 Q0 ?_
           refine WQ.p Q0 (fun w hs => Yl.fieldAddr fa110_3 Q0) ?_
           refine WQ.run (d := 122) Q0 Q0 ?_
           refine WQ.p Q0 (fun w hs => Yl.loadB sca9 Q0 hs Q1 Q0) ?_
           refine WQ.run (d := 122) Q0 Q0 ?_
           refine WQ.p Q0 (fun w hs => Yl.fieldAddr fa72_2 Q0) ?_
           refine WQ.run (d := 122) Q0 Q0 ?_
           refine WQ.p Q0 (fun w hs => Yl.loadB sca9 Q0 hs Q1 Q0) ?_
           refine WQ.run (d := 122) Q0 Q0 ?_
           refine WQ.callp Q0 (fun w => Yc.func Q0 fn69) (fun w hs => (c_spec_DigestOf _ _ (Flat.any hokx1_x).body (by simp only [TResponse.size] at *; omega))) (fun _ _ hs hb => hs.ext hb) ?_
           refine WQ.run (d := 122) Q0 Q0 ?_
           refine WQ.callp Q0 (fun w => Yc.func Q0 fn68) (fun w hs => (c_spec_FormatInt _ _ (digestN_wf _))) (fun _ _ hs hb => hs.ext hb) ?_
           refine WQ.run (d := 122) Q0 Q0 ?_
           refine WQ.p Q0 (fun w hs => Yl.nes Q0 Q0) ?_
           refine WQ.run (d := 118) Q0 Q0 ?_
           refine WQ.p Q0 (fun w hs => Yl.pickT Q0 Q0) ?_
           refine WQ.p Q0 (fun w hs => Yl.pickF Q0 Q0) ?_
           refine WQ.nil fun a ha => join _ _ ?_ ⟨by rfl, trivial⟩ ⟨by rfl, by rfl, by rfl, by rfl, by rfl, by rfl, by rfl, by rfl, by rfl, by rfl, by rfl, trivial⟩ a ha
           (try clear join); (try clear ha); (try clear hs)
           first
            | (simp_all; done)
            | (have e9 := check_ok (by assumption); simp_all; done)
            | (have e9 := check_rg x1_p.lg x1_r x1_x; simp_all; done)
            | (have e9 := check_no x1_p.lg x1_r x1_x; simp_all; done)
          ·
           replace h8 := not_eq_false h8
           replace h8 := of_decide_eq_true h8
           refine WQ.skip (d := 122) Q0 Q0 Q0 Q0 ?_
           refine WQ.skip (d := 122) Q0 Q0 Q0 Q0 ?_
           refine WQ.skip (d := 122) Q0 Q0 Q0 Q0 ?_
           refine WQ.skip (d := 122) Q0 Q0 Q0 Q0 ?_
           refine WQ.skip (d := 122) Q0 Q0 Q0 Q0 ?_
           refine WQ.skip (d := 122) Q0 Q0 Q0 Q0 ?_
           refine WQ.skip (d := 122) Q0 Q0 Q0 Q0 ?_
           refine WQ.run (d := 118) Q0 Q0 ?_
           refine WQ.p Q0 (fun w hs => Yl.pickF Q0 Q0) ?_
           refine WQ.p Q0 (fun w hs => Yl.pickF Q0 Q0) ?_
           refine WQ.nil fun a ha => join _ _ ?_ ⟨by rfl, trivial⟩ ⟨by rfl, by rfl, by rfl, by rfl, by rfl, by rfl, by rfl, by rfl, by rfl, by rfl, by rfl, trivial⟩ a ha
           rfl
        ·
         replace h6 := not_eq_false h6
         replace h6 := of_decide_eq_true h6
         refine WQ.skip (d := 107) Q0 Q0 Q0 Q0 ?_
         refine WQ.skip (d := 107) Q0 Q0 Q0 Q0 ?_
         refine WQ.skip (d := 107) Q0 Q0 Q0 Q0 ?_
         refine WQ.run (d := 100) Q0 Q0 ?_
         refine WQ.p Q0 (fun w hs => Yl.pickF Q0 Q0) ?_
         refine WQ.run (d := 100) Q0 Q0 ?_
         refine WQ.p Q0 (fun w hs => Yl.move Q0) ?_
         refine WQ.skip (d := 112) Q0 Q0 Q0 Q0 ?_
         refine WQ.skip (d := 112) Q0 Q0 Q0 Q0 ?_
         refine WQ.skip (d := 112) Q0 Q0 Q0 Q0 ?_
         refine WQ.run (d := 100) Q0 Q0 ?_
         refine WQ.p Q0 (fun w hs => Yl.pickF Q0 Q0) ?_
         refine WQ.p Q0 (fun w hs => Yl.pickF Q0 Q0) ?_
         refine WQ.p Q0 (fun w hs => Yl.move Q0) ?_
         refine WQ.run (d := 118) Q0 Q0 ?_
         refine WQ.p Q0 (fun w hs => Yl.fieldAddr fa110_3 Q0) ?_
         refine WQ.run (d := 118) Q0 Q0 ?_
         refine WQ.p Q0 (fun w hs => Yl.loadB sca9 Q0 hs Q1 Q0) ?_
         refine WQ.run (d := 118) Q0 Q0 ?_
         refine WQ.p Q0 (fun w hs => Yl.nes Q0 Q0) ?_
         refine WQ.run (d := 118) Q0 Q0 ?_
         refine WQ.p Q0 (fun w hs => Yl.move Q0) ?_
         refine WQ.split (d := 122) Q0 (fun h7 => ?_) (fun h7 => ?_)
         ·
          replace h7 := not_eq_true h7
          replace h7 := of_decide_eq_false h7
          refine WQ.run (d := 122) Q0 Q0 ?_
          refine WQ.p Q0 (fun w hs => Yl.fieldAddr fa110_3 Q0) ?_
          refine WQ.run (d := 122) Q0 Q0 ?_
          refine WQ.p Q0 (fun w hs => Yl.loadB sca9 Q0 hs Q1 Q0) ?_
          refine WQ.run (d := 122) Q0 Q0 ?_
          refine WQ.p Q0 (fun w hs => Yl.fieldAddr fa72_2 Q0) ?_
          refine WQ.run (d := 122) Q0 Q0 ?_
          refine WQ.p Q0 (fun w hs => Yl.loadB sca9 Q0 hs Q1 Q0) ?_
          refine WQ.run (d := 122) Q0 Q0 ?_
          refine WQ.callp Q0 (fun w => Yc.func Q0 fn69) (fun w hs => (c_spec_DigestOf _ _ (Flat.any hokx1_x).body (by simp only [TResponse.size] at *; omega))) (fun _ _ hs hb => hs.ext hb) ?_
          refine WQ.run (d := 122) Q0 Q0 ?_
          refine WQ.callp Q0 (fun w => Yc.func Q0 fn68) (fun w hs => (c_spec_FormatInt _ _ (digestN_wf _))) (fun _ _ hs hb => hs.ext hb) ?_
          refine WQ.run (d := 122) Q0 Q0 ?_
          refine WQ.p Q0 (fun w hs => Yl.nes Q0 Q0) ?_
          refine WQ.run (d := 118) Q0 Q0 ?_
          refine WQ.p Q0 (fun w hs => Yl.pickT Q0 Q0) ?_
          refine WQ.p Q0 (fun w hs => Yl.pickF Q0 Q0) ?_
          refine WQ.nil fun a ha => join _ _ ?_ ⟨by rfl, trivial⟩ ⟨by rfl, by rfl, by rfl, by rfl, by rfl, by rfl, by rfl, by rfl, by rfl, by rfl, by rfl, trivial⟩ a ha
          (try clear join); (try clear ha); (try clear hs)
          first
           | (simp_all; done)
           | (have e9 := check_ok (by assumption); simp_all; done)
           | (have e9 := check_rg x1_p.lg x1_r x1_x; simp_all; done)
           | (have e9 := check_no x1_p.lg x1_r x1_x; simp_all; done)
         ·
          replace h7 := not_eq_false h7
          replace h7 := of_decide_eq_true h7
          refine WQ.skip (d := 122) Q0 Q0 Q0 Q0 ?_
          refine WQ.skip (d := 122) Q0 Q0 Q0 Q0 ?_
          refine WQ.skip (d := 122) Q0 Q0 Q0 Q0 ?_
          refine WQ.skip (d := 122) Q0 Q0 Q0 Q0 ?_
          refine WQ.skip (d := 122) Q0 Q0 Q0 Q0 ?_
          refine WQ.skip (d := 122) Q0 Q0 Q0 Q0 ?_
          refine WQ.skip (d := 122) Q0 Q0 Q0 Q0 ?_
          refine WQ.run (d := 118) Q0 Q0 ?_
          refine WQ.p Q0 (fun w hs => Yl.pickF Q0 Q0) ?_
          refine WQ.p Q0 (fun w hs => Yl.pickF Q0 Q0) ?_
          refine WQ.nil fun a ha => join _ _ ?_ ⟨by rfl, trivial⟩ ⟨by rfl, by rfl, by rfl, by rfl, by rfl, by rfl, by rfl, by rfl, by rfl, by rfl, by rfl, trivial⟩ a ha
          rfl
    ·
     clear hs; rintro _ w rfl hs
     refine WC.condF Q0 ?_
     refine WC.skipn ?_
     refine WC.seq ?_
     refine Qm ?_
     refine WL.callx hs Q0 (Yc.func Q0 fn70) (c_spec_DrawSameRequest _ _ (Ph.old h_code hs)) ?_
     clear hs; intro v w ho hR hs
     obtain ⟨x5_a, x5_b, rfl, ⟨hokx5_a, hokx5_b⟩, hx5, hf5⟩ := hR
     clear ho hf5
     refine Qm ?_
     refine WL.p Q0 (Yl.extract Q0 Q0) ?_
     refine WL.p Q0 (Yl.extract Q0 Q0) ?_
     refine WL.r Q0 (Yr.alloc hs zt110) ?_
     clear hs; rintro _ w ⟨b6, rfl, hb, hs⟩; clear hb
     refine WL.r Q0 (Yr.alloc hs zt110) ?_
     clear hs; rintro _ w ⟨b7, rfl, hb, hs⟩; clear hb
     refine WL.s (Yr.storeB hs Q0 Q0 Q0 Q5 Q3 Q0 (by exact szf110)) ?_
     clear hs; rintro _ w hs
     refine WL.s (Yr.storeB hs Q0 Q0 Q0 Q5 Q3 Q0 (by exact szf110)) ?_
     clear hs; rintro _ w hs
     refine WL.next ?_
     refine WC.seq ?_
     refine Qm ?_
     refine WL.callx hs Q0 (Yc.func Q0 fn71) (c_spec_DrawCanGuess _ _ (Ph.old h_code hs)) ?_
     clear hs; intro v w ho hR hs
     obtain ⟨x8, rfl, hokx8, hx8, hf8⟩ := hR
     clear ho hf8
     refine WL.r Q0 (Yr.alloc hs zt110) ?_
     clear hs; rintro _ w ⟨b9, rfl, hb, hs⟩; clear hb
     refine WL.s (Yr.storeB hs Q0 Q0 Q0 Q5 Q3 Q0 (by exact szf110)) ?_
     clear hs; rintro _ w hs
     refine WL.next ?_
     refine WC.quietn mixed Q6 hs ?_
     refine WQ.p Q0 (fun w hs => Yl.loadAB agg110 Q0 hs Q1 Q0 Q0) ?_
     refine WQ.p Q0 (fun w hs => Yl.loadAB agg110 Q0 hs Q1 Q0 Q0) ?_
     refine WQ.callp Q0 (fun w => Yc.func Q0 fn72) (fun w hs => (c_impl_SameRequest _ _ _)) (fun _ _ hs hb => hs.ext hb) ?_
     refine WQ.p Q0 (fun w hs => Yl.fieldAddr fa110_1 Q0) ?_
     refine WQ.p Q0 (fun w hs => Yl.loadAB agg39 Q0 hs Q1 Q0 Q0) ?_
     refine WQ.p Q0 (fun w hs => Yl.fieldAddr fa110_1 Q0) ?_
     refine WQ.p Q0 (fun w hs => Yl.loadAB agg39 Q0 hs Q1 Q0 Q0) ?_
     refine WQ.p Q0 (fun w hs => Yl.eqt eqt39 Q0 Q0) ?_
     refine WQ.p Q0 (fun w hs => Yl.move Q0) ?_
     refine WQ.split (d := 147) Q0 (fun h3 => ?_) (fun h3 => ?_)
     ·
      replace h3 := of_decide_eq_true h3
      refine WQ.run (d := 147) Q0 Q0 ?_
      refine WQ.p Q0 (fun w hs => Yl.fieldAddr fa110_2 Q0) ?_
      refine WQ.run (d := 147) Q0 Q0 ?_
      refine WQ.p Q0 (fun w hs => Yl.loadB sca9 Q0 hs Q1 Q0) ?_
      refine WQ.run (d := 147) Q0 Q0 ?_
      refine WQ.p Q0 (fun w hs => Yl.fieldAddr fa110_2 Q0) ?_
      refine WQ.run (d := 147) Q0 Q0 ?_
      refine WQ.p Q0 (fun w hs => Yl.loadB sca9 Q0 hs Q1 Q0) ?_
      refine WQ.run (d := 147) Q0 Q0 ?_
      refine WQ.p Q0 (fun w hs => Yl.eqs Q0 Q0) ?_
      refine WQ.p Q0 (fun w hs => Yl.pickT Q0 Q0) ?_
      refine WQ.p Q0 (fun w hs => Yl.eqb bool4 Q0 Q0) ?_
      refine WQ.p Q0 (fun w hs => Yl.move Q0) ?_
      refine WQ.split (d := 155) Q0 (fun h4 => ?_) (fun h4 => ?_)
      ·
       replace h4 := beq_true h4
       refine WQ.run (d := 155) Q0 Q0 ?_
       refine WQ.p Q0 (fun w hs => Yl.loadAB agg110 Q0 hs Q1 Q0 Q0) ?_
       refine WQ.run (d := 155) Q0 Q0 ?_
       refine WQ.callp Q0 (fun w => Yc.func Q0 fn73) (fun w hs => (c_impl_CanGuess _ _ (Flat.any hokx8))) (fun _ _ hs hb => hs.ext hb) ?_
       refine WQ.run (d := 155) Q0 Q0 ?_
       refine WQ.p Q0 (fun w hs => Yl.loadAB agg110 Q0 hs Q1 Q0 Q0) ?_
       refine WQ.run (d := 155) Q0 Q0 ?_
       refine WQ.callp Q0 (fun w => Yc.func Q0 fn74) (fun w hs => (c_spec_CanGuess _ _ (Flat.any hokx8))) (fun _ _ hs hb => hs.ext hb) ?_
       refine WQ.run (d := 155) Q0 Q0 ?_
       refine WQ.p Q0 (fun w hs => Yl.eqb bool4 Q0 Q0) ?_
       refine WQ.p Q0 (fun w hs => Yl.pickT Q0 Q0) ?_
       refine WQ.p Q0 (fun w hs => Yl.move Q0) ?_
       refine WQ.split (d := 162) Q0 (fun h5 => ?_) (fun h5 => ?_)
       ·
        replace h5 := beq_true h5
        refine WQ.run (d := 162) Q0 Q0 ?_
        refine WQ.p Q0 (fun w hs => Yl.loadAB agg110 Q0 hs Q1 Q0 Q0) ?_
        refine WQ.run (d := 162) Q0 Q0 ?_
        refine WQ.callp Q0 (fun w => Yc.func Q0 fn73) (fun w hs => (c_impl_CanGuess _ _ (Flat.any hokx8))) (fun _ _ hs hb => hs.ext hb) ?_
        refine WQ.run (d := 162) Q0 Q0 ?_
        refine WQ.p Q0 (fun w hs => Yl.not Q0) ?_
        refine WQ.run (d := 162) Q0 Q0 ?_
        refine WQ.p Q0 (fun w hs => Yl.move Q0) ?_
        refine WQ.split (d := 166) Q0 (fun h6 => ?_) (fun h6 => ?_)
        ·
         replace h6 := not_eq_true h6
         refine WQ.skip (d := 166) Q0 Q0 Q0 Q0 ?_
         refine WQ.skip (d := 166) Q0 Q0 Q0 Q0 ?_
         refine WQ.skip (d := 166) Q0 Q0 Q0 Q0 ?_
         refine WQ.skip (d := 166) Q0 Q0 Q0 Q0 ?_
         refine WQ.skip (d := 166) Q0 Q0 Q0 Q0 ?_
         refine WQ.skip (d := 166) Q0 Q0 Q0 Q0 ?_
         refine WQ.run (d := 162) Q0 Q0 ?_
         refine WQ.p Q0 (fun w hs => Yl.pickT Q0 Q0) ?_
         refine WQ.p Q0 (fun w hs => Yl.pickT Q0 Q0) ?_
         refine WQ.p Q0 (fun w hs => Yl.assign Q0) ?_
         refine WQ.next ?_
         clear hs; intro w hs
         refine WC.ret ?_
         refine fin1' rfl Q0 ?_
         refine RetP.mk hs ?_
         first
          | rfl
          | (clear hs; simp_all; done)
          | (clear hs; have e9 := check_no x1_p.lg x1_r x1_x; simp_all; done)
        ·
         replace h6 := not_eq_false h6
         refine WQ.run (d := 166) Q0 Q0 ?_
         refine WQ.p Q0 (fun w hs => Yl.fieldAddr fa110_1 Q0) ?_
         refine WQ.run (d := 166) Q0 Q0 ?_
         refine WQ.p Q0 (fun w hs => Yl.fieldAddr fa39_0 Q0) ?_
         refine WQ.run (d := 166) Q0 Q0 ?_
         refine WQ.p Q0 (fun w hs => Yl.loadB sca9 Q0 hs Q1 Q0) ?_
         refine WQ.run (d := 166) Q0 Q0 ?_
         refine WQ.p Q0 (fun w hs => Yl.fieldAddr fa110_2 Q0) ?_
         refine WQ.run (d := 166) Q0 Q0 ?_
         refine WQ.p Q0 (fun w hs => Yl.loadB sca9 Q0 hs Q1 Q0) ?_
         refine WQ.run (d := 166) Q0 Q0 ?_
         refine WQ.p Q0 (fun w hs => Yl.eqs Q0 Q0) ?_
         refine WQ.run (d := 162) Q0 Q0 ?_
         refine WQ.p Q0 (fun w hs => Yl.pickF Q0 Q0) ?_
         refine WQ.p Q0 (fun w hs => Yl.pickT Q0 Q0) ?_
         refine WQ.p Q0 (fun w hs => Yl.assign Q0) ?_
         refine WQ.next ?_
         clear hs; intro w hs
         refine WC.ret ?_
         refine fin1' rfl Q0 ?_
         refine RetP.mk hs ?_
         first
          | rfl
          | (clear hs; simp_all; done)
          | (clear hs; have e9 := check_no x1_p.lg x1_r x1_x; simp_all; done)
       ·
        replace h5 := beq_false h5
        refine WQ.skip (d := 162) Q0 Q0 Q0 Q0 ?_
        refine WQ.skip (d := 162) Q0 Q0 Q0 Q0 ?_
        refine WQ.skip (d := 162) Q0 Q0 Q0 Q0 ?_
        refine WQ.skip (d := 162) Q0 Q0 Q0 Q0 ?_
        refine WQ.skipU (d := 166) Q0 Q0 Q0 ?_
        refine WQ.skipU (d := 166) Q0 Q0 Q0 ?_
        refine WQ.skipU (d := 166) Q0 Q0 Q0 ?_
        refine WQ.skipU (d := 166) Q0 Q0 Q0 ?_
        refine WQ.skipU (d := 166) Q0 Q0 Q0 ?_
        refine WQ.skipU (d := 166) Q0 Q0 Q0 ?_
        refine WQ.skip (d := 162) Q0 Q0 Q0 Q0 ?_
        refine WQ.p Q0 (fun w hs => Yl.pickF Q0 Q0) ?_
        refine WQ.p Q0 (fun w hs => Yl.assign Q0) ?_
        refine WQ.next ?_
        clear hs; intro w hs
        refine WC.ret ?_
        refine fin1' rfl Q0 ?_
        refine RetP.mk hs ?_
        first
         | rfl
         | (clear hs; simp_all; done)
         | (clear hs; have e9 := check_no x1_p.lg x1_r x1_x; simp_all; done)
      ·
       replace h4 := beq_false h4
       refine WQ.skip (d := 155) Q0 Q0 Q0 Q0 ?_
       refine WQ.skip (d := 155) Q0 Q0 Q0 Q0 ?_
       refine WQ.skip (d := 155) Q0 Q0 Q0 Q0 ?_
       refine WQ.skip (d := 155) Q0 Q0 Q0 Q0 ?_
       refine WQ.skip (d := 155) Q0 Q0 Q0 Q0 ?_
       refine WQ.p Q0 (fun w hs => Yl.pickF Q0 Q0) ?_
       refine WQ.p Q0 (fun w hs => Yl.move Q0) ?_
       refine WQ.skip (d := 162) Q0 Q0 Q0 Q0 ?_
       refine WQ.skip (d := 162) Q0 Q0 Q0 Q0 ?_
       refine WQ.skip (d := 162) Q0 Q0 Q0 Q0 ?_
       refine WQ.skip (d := 162) Q0 Q0 Q0 Q0 ?_
       refine WQ.skipU (d := 166) Q0 Q0 Q0 ?_
       refine WQ.skipU (d := 166) Q0 Q0 Q0 ?_
       refine WQ.skipU (d := 166) Q0 Q0 Q0 ?_
       refine WQ.skipU (d := 166) Q0 Q0 Q0 ?_
       refine WQ.skipU (d := 166) Q0 Q0 Q0 ?_
       refine WQ.skipU (d := 166) Q0 Q0 Q0 ?_
       refine WQ.skip (d := 162) Q0 Q0 Q0 Q0 ?_
       refine WQ.p Q0 (fun w hs => Yl.pickF Q0 Q0) ?_
       refine WQ.p Q0 (fun w hs => Yl.assign Q0) ?_
       refine WQ.next ?_
       clear hs; intro w hs
       refine WC.ret ?_
       refine fin1' rfl Q0 ?_
       refine RetP.mk hs ?_
       first
        | rfl
        | (clear hs; simp_all; done)
        | (clear hs; have e9 := check_no x1_p.lg x1_r x1_x; simp_all; done)
     ·
      replace h3 := of_decide_eq_false h3
      refine WQ.skip (d := 147) Q0 Q0 Q0 Q0 ?_
      refine WQ.skip (d := 147) Q0 Q0 Q0 Q0 ?_
      refine WQ.skip (d := 147) Q0 Q0 Q0 Q0 ?_
      refine WQ.skip (d := 147) Q0 Q0 Q0 Q0 ?_
      refine WQ.skip (d := 147) Q0 Q0 Q0 Q0 ?_
      refine WQ.p Q0 (fun w hs => Yl.pickF Q0 Q0) ?_
      refine WQ.p Q0 (fun w hs => Yl.eqb bool4 Q0 Q0) ?_
      refine WQ.p Q0 (fun w hs => Yl.move Q0) ?_
      refine WQ.split (d := 155) Q0 (fun h4 => ?_) (fun h4 => ?_)
      ·
       replace h4 := beq_true h4
       refine WQ.run (d := 155) Q0 Q0 ?_
       refine WQ.p Q0 (fun w hs => Yl.loadAB agg110 Q0 hs Q1 Q0 Q0) ?_
       refine WQ.run (d := 155) Q0 Q0 ?_
       refine WQ.callp Q0 (fun w => Yc.func Q0 fn73) (fun w hs => (c_impl_CanGuess _ _ (Flat.any hokx8))) (fun _ _ hs hb => hs.ext hb) ?_
       refine WQ.run (d := 155) Q0 Q0 ?_
       refine WQ.p Q0 (fun w hs => Yl.loadAB agg110 Q0 hs Q1 Q0 Q0) ?_
       refine WQ.run (d := 155) Q0 Q0 ?_
       refine WQ.callp Q0 (fun w => Yc.func Q0 fn74) (fun w hs => (c_spec_CanGuess _ _ (Flat.any hokx8))) (fun _ _ hs hb => hs.ext hb) ?_
       refine WQ.run (d := 155) Q0 Q0 ?_
       refine WQ.p Q0 (fun w hs => Yl.eqb bool4 Q0 Q0) ?_
       refine WQ.p Q0 (fun w hs => Yl.pickT Q0 Q0) ?_
       refine WQ.p Q0 (fun w hs => Yl.move Q0) ?_
       refine WQ.split (d := 162) Q0 (fun h5 => ?_) (fun h5 => ?_)
       ·
        replace h5 := beq_true h5
        refine WQ.run (d := 162) Q0 Q0 ?_
        refine WQ.p Q0 (fun w hs => Yl.loadAB agg110 Q0 hs Q1 Q0 Q0) ?_
        refine WQ.run (d := 162) Q0 Q0 ?_
        refine WQ.callp Q0 (fun w => Yc.func Q0 fn73) (fun w hs => (c_impl_CanGuess _ _ (Flat.any hokx8))) (fun _ _ hs hb => hs.ext hb) ?_
        refine WQ.run (d := 162) Q0 Q0 ?_
        refine WQ.p Q0 (fun w hs => Yl.not Q0) ?_
        refine WQ.run (d := 162) Q0 Q0 ?_
        refine WQ.p Q0 (fun w hs => Yl.move Q0) ?_
        refine WQ.split (d := 166) Q0 (fun h6 => ?_) (fun h6 => ?_)
        ·
         replace h6 := not_eq_true h6
         refine WQ.skip (d := 166) Q0 Q0 Q0 Q0 ?_
         refine WQ.skip (d := 166) Q0 Q0 Q0 Q0 ?_
         refine WQ.skip (d := 166) Q0 Q0 Q0 Q0 ?_
         refine WQ.skip (d := 166) Q0 Q0 Q0 Q0 ?_
         refine WQ.skip (d := 166) Q0 Q0 Q0 Q0 ?_
         refine WQ.skip (d := 166) Q0 Q0 Q0 Q0 ?_
         refine WQ.run (d := 162) Q0 Q0 ?_
         refine WQ.p Q0 (fun w hs => Yl.pickT Q0 Q0) ?_
         refine WQ.p Q0 (fun w hs => Yl.pickT Q0 Q0) ?_
         refine WQ.p Q0 (fun w hs => Yl.assign Q0) ?_
         refine WQ.next ?_
         clear hs; intro w hs
         refine WC.ret ?_
         refine fin1' rfl Q0 ?_
         refine RetP.mk hs ?_
         first
          | rfl
          | (clear hs; simp_all; done)
          | (clear hs; have e9 := check_no x1_p.lg x1_r x1_x; simp_all; done)
        ·
         replace h6 := not_eq_false h6
         refine WQ.run (d := 166) Q0 Q0 ?_
         refine WQ.p Q0 (fun w hs => Yl.fieldAddr fa110_1 Q0) ?_
         refine WQ.run (d := 166) Q0 Q0 ?_
         refine WQ.p Q0 (fun w hs => Yl.fieldAddr fa39_0 Q0) ?_
         refine WQ.run (d := 166) Q0 Q0 ?_
         refine WQ.p Q0 (fun w hs => Yl.loadB sca9 Q0 hs Q1 Q0) ?_
         refine WQ.run (d := 166) Q0 Q0 ?_
         refine WQ.p Q0 (fun w hs => Yl.fieldAddr fa110_2 Q0) ?_
         refine WQ.run (d := 166) Q0 Q0 ?_
         refine WQ.p Q0 (fun w hs => Yl.loadB sca9 Q0 hs Q1 Q0) ?_
         refine WQ.run (d := 166) Q0 Q0 ?_
         refine WQ.p Q0 (fun w hs => Yl.eqs Q0 Q0) ?_
         refine WQ.run (d := 162) Q0 Q0 ?_
         refine WQ.p Q0 (fun w hs => Yl.pickF Q0 Q0) ?_
         refine WQ.p Q0 (fun w hs => Yl.pickT Q0 Q0) ?_
         refine WQ.p Q0 (fun w hs => Yl.assign Q0) ?_
         refine WQ.next ?_
         clear hs; intro w hs
         refine WC.ret ?_
         refine fin1' rfl Q0 ?_
         refine RetP.mk hs ?_
         first
          | rfl
          | (clear hs; simp_all; done)
          | (clear hs; have e9 := check_no x1_p.lg x1_r x1_x; simp_all; done)
       ·
        replace h5 := beq_false h5
        refine WQ.skip (d := 162) Q0 Q0 Q0 Q0 ?_
        refine WQ.skip (d := 162) Q0 Q0 Q0 Q0 ?_
        refine WQ.skip (d := 162) Q0 Q0 Q0 Q0 ?_
        refine WQ.skip (d := 162) Q0 Q0 Q0 Q0 ?_
        refine WQ.skipU (d := 166) Q0 Q0 Q0 ?_
        refine WQ.skipU (d := 166) Q0 Q0 Q0 ?_
        refine WQ.skipU (d := 166) Q0 Q0 Q0 ?_
        refine WQ.skipU (d := 166) Q0 Q0 Q0 ?_
        refine WQ.skipU (d := 166) Q0 Q0 Q0 ?_
        refine WQ.skipU (d := 166) Q0 Q0 Q0 ?_
        refine WQ.skip (d := 162) Q0 Q0 Q0 Q0 ?_
        refine WQ.p Q0 (fun w hs => Yl.pickF Q0 Q0) ?_
        refine WQ.p Q0 (fun w hs => Yl.assign Q0) ?_
        refine WQ.next ?_
        clear hs; intro w hs
        refine WC.ret ?_
        refine fin1' rfl Q0 ?_
        refine RetP.mk hs ?_
        first
         | rfl
         | (clear hs; simp_all; done)
         | (clear hs; have e9 := check_no x1_p.lg x1_r x1_x; simp_all; done)
      ·
       replace h4 := beq_false h4
       refine WQ.skip (d := 155) Q0 Q0 Q0 Q0 ?_
       refine WQ.skip (d := 155) Q0 Q0 Q0 Q0 ?_
       refine WQ.skip (d := 155) Q0 Q0 Q0 Q0 ?_
       refine WQ.skip (d := 155) Q0 Q0 Q0 Q0 ?_
       refine WQ.skip (d := 155) Q0 Q0 Q0 Q0 ?_
       refine WQ.p Q0 (fun w hs => Yl.pickF Q0 Q0) ?_
       refine WQ.p Q0 (fun w hs => Yl.move Q0) ?_
       refine WQ.skip (d := 162) Q0 Q0 Q0 Q0 ?_
       refine WQ.skip (d := 162) Q0 Q0 Q0 Q0 ?_
       refine WQ.skip (d := 162) Q0 Q0 Q0 Q0 ?_
       refine WQ.skip (d := 162) Q0 Q0 Q0 Q0 ?_
       refine WQ.skipU (d := 166) Q0 Q0 Q0 ?_
       refine WQ.skipU (d := 166) Q0 Q0 Q0 ?_
       refine WQ.skipU (d := 166) Q0 Q0 Q0 ?_
       refine WQ.skipU (d := 166) Q0 Q0 Q0 ?_
       refine WQ.skipU (d := 166) Q0 Q0 Q0 ?_
       refine WQ.skipU (d := 166) Q0 Q0 Q0 ?_
       refine WQ.skip (d := 162) Q0 Q0 Q0 Q0 ?_
       refine WQ.p Q0 (fun w hs => Yl.pickF Q0 Q0) ?_
       refine WQ.p Q0 (fun w hs => Yl.assign Q0) ?_
       refine WQ.next ?_
       clear hs; intro w hs
       refine WC.ret ?_
       refine fin1' rfl Q0 ?_
       refine RetP.mk hs ?_
       first
        | rfl
        | (clear hs; simp_all; done)
        | (clear hs; have e9 := check_no x1_p.lg x1_r x1_x; simp_all; done)

end Go.Sw
