/- Walks: what each function of the program returns, for every input. Printed by gen.py. -/
import Derived.Test.YtbbcmlpmpgjhlaaDoorW0
set_option linter.all false
namespace Go.Sw
open Go Go.RowKit Go.Proofs

theorem c_spec_ParsePolicy (s : Str) (w : World)  (hb : s.length ≤ 1048576) : Calls Tryd.prog 15 [S s].toArray w (Ret w (fun v w' => ∃ x : PPolicy, v = .tuple #[.agg (Ph.enc x).toArray, Bo (policyIs s)] ∧ x.lg = policyOf s ∧ Fresh w x w')) := by
 refine enterN 52 Tryd.func15 rfl rfl rfl ?_
 have hs := Sat.start w
 refine WC.seq ?_
 refine WL.r Q0 (Yr.alloc hs zt26) ?_
 clear hs; rintro _ w ⟨b1, rfl, hb, hs⟩; clear hb
 refine Qa ?_
 refine WL.next ?_
 refine WC.seq' ?_
 refine WC.seq ?_
 refine Qm ?_
 refine WL.p Q0 (Yl.eqs Q0 Q0) ?_
 refine WL.next ?_
 refine WC.condS Q0 (fun h1 => ?_) (fun h1 => ?_)
 ·
  replace h1 := of_decide_eq_true h1
  refine WC.seq ?_
  refine WL.p Q0 (Yl.build bt26 Q0 Q4) ?_
  refine WL.s (Yr.storeB hs Q0 Q0 Q0 Q5 Q3 Q0 (by exact szf26)) ?_
  clear hs; rintro _ w hs
  refine Qa ?_
  refine WL.next ?_
  refine WC.ret ?_
  refine At.thenret ?_
  refine fin2c rfl agg26 Q0 Q0 hs Q1 Q0 ?_
  refine Ret.mk hs ?_
  have hb9 : policyIs s = true := policyIs_nil h1
  exact ⟨⟨false, ⟨[], none, 0⟩, ⟨[], none, 0⟩, ⟨[], none, 0⟩, []⟩, by rw [hb9]; rfl, (policyOf_no (.inl h1)).symm, ⟨⟨[], PPolicy.zown _, .nil, fun b h => by cases h⟩⟩⟩
 ·
  replace h1 := of_decide_eq_false h1
  refine WC.skipn ?_
  refine WC.seq ?_
  refine Qm ?_
  refine WL.call hs Q0 (Yc.func Q0 fn64) (c_spec_l5Split _ 59 _ Q10) ?_
  have hs0 := hs; clear hs; intro v w hb hR hs; clear hs
  obtain ⟨x2, rfl, hx2, hf2⟩ := hR
  obtain ⟨F2, hs⟩ := hf2.sat hs0 hb; clear hs0 hf2
  have hle2 := Sl.Ok.le (hs.okow (x := x2) (F := F2) Q1)
  refine Qa ?_
  refine WL.next ?_
  refine WC.seq' ?_
  refine WC.seq ?_
  refine Qm ?_
  refine WL.p Q0 (Yl.len_sl slu24 Q0) ?_
  refine WL.p Q0 (Yl.lss Q0 Q0) ?_
  refine WL.next ?_
  refine WC.condS Q0 (fun h2 => ?_) (fun h2 => ?_)
  ·
   replace h2 := of_decide_eq_true h2
   refine WC.seq ?_
   refine WL.p Q0 (Yl.build bt26 Q0 Q4) ?_
   refine WL.s (Yr.storeB hs Q0 Q0 Q0 Q5 Q3 Q0 (by exact szf26)) ?_
   clear hs; rintro _ w hs
   refine Qa ?_
   refine WL.next ?_
   refine WC.ret ?_
   refine At.thenret ?_
   refine fin2c rfl agg26 Q0 Q0 hs Q1 Q0 ?_
   refine Ret.mk hs ?_
   have hb9 : policyIs s = false := policyIs_short h1 (by rw [← show x2.l = splitC 59 s from hx2]; omega)
   exact ⟨⟨false, ⟨[], none, 0⟩, ⟨[], none, 0⟩, ⟨[], none, 0⟩, []⟩, by rw [hb9]; rfl, (policyOf_no (.inr hb9)).symm, ⟨⟨[], PPolicy.zown _, .nil, fun b h => by cases h⟩⟩⟩
  ·
   replace h2 := of_decide_eq_false h2
   have h39 := getD_len (s := s) (i := 3)
   rw [← show x2.l = splitC 59 s from hx2] at h39
   refine WC.skipn ?_
   refine WC.anyn mixed hs ?_
   clear hs; intro w hs
   refine WA.p (i := 0) Q0 Q6 Q6 Q6 Q0 (hs.only Q2) (fun w hs => Yl.move Q0) ?_
   refine WA.p (i := 1) Q0 Q6 Q6 Q6 Q0 (hs.only Q2) (fun w hs => Yl.indexAddr (k := 0) slt24 Q0 Q0 (hs.okow (x := x2) (F := F2) Q1) Q0 ((getD_some (i := 0) (z := ([] : Str)) Q7))) ?_
   refine WA.p (i := 2) Q0 Q6 Q6 Q6 Q0 (hs.only Q2) (fun w hs => Yl.loadC0 sca9 Q0 (Sl.Ok.at_ (hs.okow (x := x2) (F := F2) Q1) ((getD_some (i := 0) (z := ([] : Str)) Q7))).2 Q0) ?_
   refine WA.p (i := 5) Q0 Q6 Q6 Q6 Q0 (hs.only Q2) (fun w hs => Yl.move Q0) ?_
   refine WA.p (i := 6) Q0 Q6 Q6 Q6 Q0 (hs.only Q2) (fun w hs => Yl.indexAddr (k := 1) slt24 Q0 Q0 (hs.okow (x := x2) (F := F2) Q1) Q0 ((getD_some (i := 1) (z := ([] : Str)) Q7))) ?_
   refine WA.p (i := 7) Q0 Q6 Q6 Q6 Q0 (hs.only Q2) (fun w hs => Yl.loadC0 sca9 Q0 (Sl.Ok.at_ (hs.okow (x := x2) (F := F2) Q1) ((getD_some (i := 1) (z := ([] : Str)) Q7))).2 Q0) ?_
   refine WA.p (i := 10) Q0 Q6 Q6 Q6 Q0 (hs.only Q2) (fun w hs => Yl.move Q0) ?_
   refine WA.p (i := 11) Q0 Q6 Q6 Q6 Q0 (hs.only Q2) (fun w hs => Yl.indexAddr (k := 2) slt24 Q0 Q0 (hs.okow (x := x2) (F := F2) Q1) Q0 ((getD_some (i := 2) (z := ([] : Str)) Q7))) ?_
   refine WA.p (i := 12) Q0 Q6 Q6 Q6 Q0 (hs.only Q2) (fun w hs => Yl.loadC0 sca9 Q0 (Sl.Ok.at_ (hs.okow (x := x2) (F := F2) Q1) ((getD_some (i := 2) (z := ([] : Str)) Q7))).2 Q0) ?_
   refine WA.two (i := 3) (j := 16) Q6 ?_ ?_
   ·
    refine WI.call2 (i := 3) hs (fun _ hs => hs.only Q2) Q0 Q0 (Yc.func Q0 fn64) (c_spec_l5Split _ 32 _ (by first | (have := getD_len (s := s) (i := 0); rw [← show x2.l = splitC 59 s from hx2] at this; omega) | (have := getD_len (s := s) (i := 1); rw [← show x2.l = splitC 59 s from hx2] at this; omega) | (have := getD_len (s := s) (i := 2); rw [← show x2.l = splitC 59 s from hx2] at this; omega) | (have := getD_len (s := s) (i := 3); rw [← show x2.l = splitC 59 s from hx2] at this; omega))) ?_
    have hs0 := hs; clear hs; intro v w hb hR hs; clear hs
    obtain ⟨x3, rfl, hx3, hf3⟩ := hR
    obtain ⟨F3, hs⟩ := hf3.sat hs0 hb; clear hs0 hf3
    have hle3 := Sl.Ok.le (hs.okow (x := x3) (F := F3) Q1)
    refine WA.p (i := 4) Q0 Q6 Q6 Q6 Q0 (hs.only Q2) (fun w hs => Yl.slice_sl (s := x3) (l := 1) (h := x3.l.length) slt24 Q0 hle3 (by exact ⟨_, by rfl⟩) (by exact rfl) (by rw [hx3]; exact List.length_pos_iff.2 (splitC_ne _ _)) (by exact Nat.le_refl _)) ?_
    refine WA.two (i := 8) (j := 16) Q6 ?_ ?_
    ·
     refine WI.call2 (i := 8) hs (fun _ hs => hs.only Q2) Q0 Q0 (Yc.func Q0 fn64) (c_spec_l5Split _ 32 _ (by first | (have := getD_len (s := s) (i := 0); rw [← show x2.l = splitC 59 s from hx2] at this; omega) | (have := getD_len (s := s) (i := 1); rw [← show x2.l = splitC 59 s from hx2] at this; omega) | (have := getD_len (s := s) (i := 2); rw [← show x2.l = splitC 59 s from hx2] at this; omega) | (have := getD_len (s := s) (i := 3); rw [← show x2.l = splitC 59 s from hx2] at this; omega))) ?_
     have hs0 := hs; clear hs; intro v w hb hR hs; clear hs
     obtain ⟨x4, rfl, hx4, hf4⟩ := hR
     obtain ⟨F4, hs⟩ := hf4.sat hs0 hb; clear hs0 hf4
     have hle4 := Sl.Ok.le (hs.okow (x := x4) (F := F4) Q1)
     refine WA.p (i := 9) Q0 Q6 Q6 Q6 Q0 (hs.only Q2) (fun w hs => Yl.slice_sl (s := x4) (l := 1) (h := x4.l.length) slt24 Q0 hle4 (by exact ⟨_, by rfl⟩) (by exact rfl) (by rw [hx4]; exact List.length_pos_iff.2 (splitC_ne _ _)) (by exact Nat.le_refl _)) ?_
     refine WA.two (i := 13) (j := 16) Q6 ?_ ?_
     ·
      refine WI.call2 (i := 13) hs (fun _ hs => hs.only Q2) Q0 Q0 (Yc.func Q0 fn64) (c_spec_l5Split _ 32 _ (by first | (have := getD_len (s := s) (i := 0); rw [← show x2.l = splitC 59 s from hx2] at this; omega) | (have := getD_len (s := s) (i := 1); rw [← show x2.l = splitC 59 s from hx2] at this; omega) | (have := getD_len (s := s) (i := 2); rw [← show x2.l = splitC 59 s from hx2] at this; omega) | (have := getD_len (s := s) (i := 3); rw [← show x2.l = splitC 59 s from hx2] at this; omega))) ?_
      have hs0 := hs; clear hs; intro v w hb hR hs; clear hs
      obtain ⟨x5, rfl, hx5, hf5⟩ := hR
      obtain ⟨F5, hs⟩ := hf5.sat hs0 hb; clear hs0 hf5
      have hle5 := Sl.Ok.le (hs.okow (x := x5) (F := F5) Q1)
      refine WA.p (i := 14) Q0 Q6 Q6 Q6 Q0 (hs.only Q2) (fun w hs => Yl.slice_sl (s := x5) (l := 1) (h := x5.l.length) slt24 Q0 hle5 (by exact ⟨_, by rfl⟩) (by exact rfl) (by rw [hx5]; exact List.length_pos_iff.2 (splitC_ne _ _)) (by exact Nat.le_refl _)) ?_
      refine WA.p (i := 15) Q0 Q6 Q6 Q6 Q0 (hs.only Q2) (fun w hs => Yl.build bt26 Q0 Q4) ?_
      refine WA.r (i := 16) Q6 Q0 Q0 (Yr.alloc hs zt26) (by rintro _ w ⟨b6, rfl, hb, hs⟩; exact hs.only Q2) ?_
      clear hs; rintro _ w ⟨b6, rfl, hb, hs⟩; clear hb
      refine WA.s (i := 17) Q6 Q0 (Yr.storeB hs Q0 Q0 Q0 Q5 Q3 Q0 (by exact szf26)) (by rintro _ w hs; exact hs.only Q2) ?_
      clear hs; rintro _ w hs
      refine WA.donen Q6 ?_
      refine WC.seq' ?_
      refine WC.seq ?_
      refine Qm ?_
      refine WL.p Q0 (Yl.len_sl slu24 Q0) ?_
      refine WL.p Q0 (Yl.gtr Q0 Q0) ?_
      refine Qm ?_
      refine WL.split (d := 34) Q0 (fun h3 => ?_) (fun h3 => ?_)
      ·
       replace h3 := of_decide_eq_true h3
       refine WL.run (d := 34) Q0 Q0 ?_
       refine Qm ?_
       refine WL.run (d := 34) Q0 Q0 ?_
       refine WL.p Q0 (Yl.indexAddr (k := 3) slt24 Q0 Q0 (hs.okow (x := x2) (F := F2) Q1) Q0 ((getD_some (i := 3) (z := ([] : Str)) Q7))) ?_
       refine WL.run (d := 34) Q0 Q0 ?_
       refine WL.p Q0 (Yl.loadC0 sca9 Q0 (Sl.Ok.at_ (hs.okow (x := x2) (F := F2) Q1) ((getD_some (i := 3) (z := ([] : Str)) Q7))).2 Q0) ?_
       refine WL.run (d := 34) Q0 Q0 ?_
       refine WL.p Q0 (Yl.len_str str9 Q0) ?_
       refine WL.run (d := 34) Q0 Q0 ?_
       refine WL.p Q0 (Yl.gtr Q0 Q0) ?_
       refine WL.p Q0 (Yl.pickT Q0 Q0) ?_
       refine WL.next ?_
       refine WC.condS Q0 (fun h4 => ?_) (fun h4 => ?_)
       ·
        replace h4 := of_decide_eq_true h4
        refine WC.region ?_
        refine Qm ?_
        refine WL.p Q0 (Yl.indexAddr (k := 3) slt24 Q0 Q0 (hs.okow (x := x2) (F := F2) Q1) Q0 ((getD_some (i := 3) (z := ([] : Str)) Q7))) ?_
        refine WL.p Q0 (Yl.loadC0 sca9 Q0 (Sl.Ok.at_ (hs.okow (x := x2) (F := F2) Q1) ((getD_some (i := 3) (z := ([] : Str)) Q7))).2 Q0) ?_
        refine WL.p Q0 (Yl.slice_str (l := 6) str9 Q0 (by exact ⟨_, by rfl⟩) (by exact rfl) Q7 Q7) ?_
        refine WL.p Q0 (Yl.fieldAddr fa26_4 Q0) ?_
        refine WL.s (Yr.storeB hs Q0 Q0 Q0 Q5 Q3 Q0 (by exact szf9)) ?_
        clear hs; rintro _ w hs
        refine WL.nil ?_
        refine At.then_ ?_
        refine WC.seq' ?_
        refine WC.seq ?_
        refine WL.p Q0 (Yl.loadAB agg26 Q0 hs Q1 Q0 Q0) ?_
        have hpl9 : PPolicy.lg (⟨true, (x3.cut 1 x3.l.length), (x4.cut 1 x4.l.length), (x5.cut 1 x5.l.length), (((x2.l.getD 3 []).drop 6).take ((x2.l.getD 3 []).length - 6))⟩ : PPolicy) = polS s := by
         have e2 : x2.l = splitC 59 s := hx2
         have g0 : x3.l = splitC 32 ((splitC 59 s).getD 0 []) := by rw [← e2]; exact hx3
         have g1 : x4.l = splitC 32 ((splitC 59 s).getD 1 []) := by rw [← e2]; exact hx4
         have g2 : x5.l = splitC 32 ((splitC 59 s).getD 2 []) := by rw [← e2]; exact hx5
         have c0 : (x3.cut 1 x3.l.length).l = (splitC 32 ((splitC 59 s).getD 0 [])).tail := by rw [Sl.cut_full, g0, List.drop_one]
         have c1 : (x4.cut 1 x4.l.length).l = (splitC 32 ((splitC 59 s).getD 1 [])).tail := by rw [Sl.cut_full, g1, List.drop_one]
         have c2 : (x5.cut 1 x5.l.length).l = (splitC 32 ((splitC 59 s).getD 2 [])).tail := by rw [Sl.cut_full, g2, List.drop_one]
         simp only [PPolicy.lg, polS, polOf, c0, c1, c2, TPolicy.mk.injEq, true_and]
         rw [← e2]
         first
          | (rw [if_neg (show ¬ 3 < x2.l.length from fun h => by omega)]; done)
          | (rw [if_pos (show 3 < x2.l.length from Int.ofNat_lt.1 Q7)]; done)
          | (rw [if_pos (show 3 < x2.l.length from Int.ofNat_lt.1 Q7)]
             simp only [nonceS, nonceI]
             first
               | (rfl; done)
               | (rw [if_neg Q7]; done)
               | (rw [if_pos Q7, List.take_of_length_le (by simp)]; done)
               | (rw [if_pos Q7]; done))
        refine WL.callp hs Q0 (Yc.func Q0 fn62) (c_spec_FormatPolicy (⟨true, (x3.cut 1 x3.l.length), (x4.cut 1 x4.l.length), (x5.cut 1 x5.l.length), (((x2.l.getD 3 []).drop 6).take ((x2.l.getD 3 []).length - 6))⟩ : PPolicy) _ ⟨trivial, (Sl.Ok.cut (hs.okow (x := x3) (F := F3) Q1) (by rw [hx3]; exact List.length_pos_iff.2 (splitC_ne _ _)) (by exact Nat.le_refl _)), (Sl.Ok.cut (hs.okow (x := x4) (F := F4) Q1) (by rw [hx4]; exact List.length_pos_iff.2 (splitC_ne _ _)) (by exact Nat.le_refl _)), (Sl.Ok.cut (hs.okow (x := x5) (F := F5) Q1) (by rw [hx5]; exact List.length_pos_iff.2 (splitC_ne _ _)) (by exact Nat.le_refl _)), (by show WfS _; unfold WfS; simp only [List.length_take, List.length_drop]; omega)⟩ (by rw [hpl9]; have := polS_size (s := s) (by rw [← show x2.l = splitC 59 s from hx2]; omega); omega)) ?_
        clear hs; intro w hs
        refine Qm ?_
        refine WL.p Q0 (Yl.nes Q0 Q0) ?_
        refine WL.next ?_
        refine WC.condS Q0 (fun h5 => ?_) (fun h5 => ?_)
        ·
         replace h5 := not_eq_true h5
         replace h5 := of_decide_eq_false h5
         refine WC.seq ?_
         refine WL.p Q0 (Yl.build bt26 Q0 Q4) ?_
         refine WL.s (Yr.storeB hs Q0 Q0 Q0 Q5 Q3 Q0 (by exact szf26)) ?_
         clear hs; rintro _ w hs
         refine Qa ?_
         refine WL.next ?_
         refine WC.ret ?_
         refine At.thenret ?_
         refine fin2c rfl agg26 Q0 Q0 hs Q1 Q0 ?_
         refine Ret.mk hs ?_
         rw [hpl9] at h5
         have hb9 : policyIs s = false := policyIs_bad h1 h5
         exact ⟨⟨false, ⟨[], none, 0⟩, ⟨[], none, 0⟩, ⟨[], none, 0⟩, []⟩, by rw [hb9]; rfl, (policyOf_no (.inr hb9)).symm, ⟨⟨[], PPolicy.zown _, .nil, fun b h => by cases h⟩⟩⟩
        ·
         replace h5 := not_eq_false h5
         replace h5 := of_decide_eq_true h5
         refine WC.skipn ?_
         refine WC.seq ?_
         refine WL.p Q0 (Yl.loadAB agg26 Q0 hs Q1 Q0 Q0) ?_
         refine WL.s (Yr.storeB hs Q0 Q0 Q0 Q5 Q3 Q0 (by exact szf26)) ?_
         clear hs; rintro _ w hs
         refine Qa ?_
         refine WL.next ?_
         refine WC.ret ?_
         refine fin2c rfl agg26 Q0 Q0 hs Q1 Q0 ?_
         refine Ret.mk hs ?_
         rw [hpl9] at h5
         have hq9 : x2.l = splitC 59 s := hx2
         have h49 : 3 ≤ (splitC 59 s).length := by rw [← hq9]; omega
         have hb9 : policyIs s = true := policyIs_good h5 h49
         obtain ⟨G90, hs⟩ := Sat.cutow (lo := 1) (hi := x3.l.length) (hs.sel (D := [ow x3 F3]) Q2) (by rw [hx3]; exact List.length_pos_iff.2 (splitC_ne _ _)) (Nat.le_refl _)
         obtain ⟨G91, hs⟩ := Sat.cutow (lo := 1) (hi := x4.l.length) (hs.sel (D := [ow x4 F4]) Q2) (by rw [hx4]; exact List.length_pos_iff.2 (splitC_ne _ _)) (Nat.le_refl _)
         obtain ⟨G92, hs⟩ := Sat.cutow (lo := 1) (hi := x5.l.length) (hs.sel (D := [ow x5 F5]) Q2) (by rw [hx5]; exact List.length_pos_iff.2 (splitC_ne _ _)) (Nat.le_refl _)
         refine ⟨(⟨true, (x3.cut 1 x3.l.length), (x4.cut 1 x4.l.length), (x5.cut 1 x5.l.length), (((x2.l.getD 3 []).drop 6).take ((x2.l.getD 3 []).length - 6))⟩ : PPolicy), by rw [hb9]; rfl, hpl9.trans (policyOf_good h1 hb9).symm, ?_⟩
         exact (PPolicy.join _ (hs.only (D := [ow (x3.cut 1 x3.l.length) G90, ow (x4.cut 1 x4.l.length) G91, ow (x5.cut 1 x5.l.length) G92]) Q2) trivial (by show WfS _; unfold WfS; first | (simp only [List.length_take, List.length_drop]; omega) | simp)).fresh List.mem_cons_self
       ·
        replace h4 := of_decide_eq_false h4
        refine WC.skipn ?_
        refine WC.seq' ?_
        refine WC.seq ?_
        refine WL.p Q0 (Yl.loadAB agg26 Q0 hs Q1 Q0 Q0) ?_
        have hpl9 : PPolicy.lg (⟨true, (x3.cut 1 x3.l.length), (x4.cut 1 x4.l.length), (x5.cut 1 x5.l.length), ([] : Str)⟩ : PPolicy) = polS s := by
         have e2 : x2.l = splitC 59 s := hx2
         have g0 : x3.l = splitC 32 ((splitC 59 s).getD 0 []) := by rw [← e2]; exact hx3
         have g1 : x4.l = splitC 32 ((splitC 59 s).getD 1 []) := by rw [← e2]; exact hx4
         have g2 : x5.l = splitC 32 ((splitC 59 s).getD 2 []) := by rw [← e2]; exact hx5
         have c0 : (x3.cut 1 x3.l.length).l = (splitC 32 ((splitC 59 s).getD 0 [])).tail := by rw [Sl.cut_full, g0, List.drop_one]
         have c1 : (x4.cut 1 x4.l.length).l = (splitC 32 ((splitC 59 s).getD 1 [])).tail := by rw [Sl.cut_full, g1, List.drop_one]
         have c2 : (x5.cut 1 x5.l.length).l = (splitC 32 ((splitC 59 s).getD 2 [])).tail := by rw [Sl.cut_full, g2, List.drop_one]
         simp only [PPolicy.lg, polS, polOf, c0, c1, c2, TPolicy.mk.injEq, true_and]
         rw [← e2]
         first
          | (rw [if_neg (show ¬ 3 < x2.l.length from fun h => by omega)]; done)
          | (rw [if_pos (show 3 < x2.l.length from Int.ofNat_lt.1 Q7)]; done)
          | (rw [if_pos (show 3 < x2.l.length from Int.ofNat_lt.1 Q7)]
             simp only [nonceS, nonceI]
             first
               | (rfl; done)
               | (rw [if_neg Q7]; done)
               | (rw [if_pos Q7, List.take_of_length_le (by simp)]; done)
               | (rw [if_pos Q7]; done))
        refine WL.callp hs Q0 (Yc.func Q0 fn62) (c_spec_FormatPolicy (⟨true, (x3.cut 1 x3.l.length), (x4.cut 1 x4.l.length), (x5.cut 1 x5.l.length), ([] : Str)⟩ : PPolicy) _ ⟨trivial, (Sl.Ok.cut (hs.okow (x := x3) (F := F3) Q1) (by rw [hx3]; exact List.length_pos_iff.2 (splitC_ne _ _)) (by exact Nat.le_refl _)), (Sl.Ok.cut (hs.okow (x := x4) (F := F4) Q1) (by rw [hx4]; exact List.length_pos_iff.2 (splitC_ne _ _)) (by exact Nat.le_refl _)), (Sl.Ok.cut (hs.okow (x := x5) (F := F5) Q1) (by rw [hx5]; exact List.length_pos_iff.2 (splitC_ne _ _)) (by exact Nat.le_refl _)), (show WfS [] from Nat.zero_le _)⟩ (by rw [hpl9]; have := polS_size (s := s) (by rw [← show x2.l = splitC 59 s from hx2]; omega); omega)) ?_
        clear hs; intro w hs
        refine Qm ?_
        refine WL.p Q0 (Yl.nes Q0 Q0) ?_
        refine WL.next ?_
        refine WC.condS Q0 (fun h5 => ?_) (fun h5 => ?_)
        ·
         replace h5 := not_eq_true h5
         replace h5 := of_decide_eq_false h5
         refine WC.seq ?_
         refine WL.p Q0 (Yl.build bt26 Q0 Q4) ?_
         refine WL.s (Yr.storeB hs Q0 Q0 Q0 Q5 Q3 Q0 (by exact szf26)) ?_
         clear hs; rintro _ w hs
         refine Qa ?_
         refine WL.next ?_
         refine WC.ret ?_
         refine At.thenret ?_
         refine fin2c rfl agg26 Q0 Q0 hs Q1 Q0 ?_
         refine Ret.mk hs ?_
         rw [hpl9] at h5
         have hb9 : policyIs s = false := policyIs_bad h1 h5
         exact ⟨⟨false, ⟨[], none, 0⟩, ⟨[], none, 0⟩, ⟨[], none, 0⟩, []⟩, by rw [hb9]; rfl, (policyOf_no (.inr hb9)).symm, ⟨⟨[], PPolicy.zown _, .nil, fun b h => by cases h⟩⟩⟩
        ·
         replace h5 := not_eq_false h5
         replace h5 := of_decide_eq_true h5
         refine WC.skipn ?_
         refine WC.seq ?_
         refine WL.p Q0 (Yl.loadAB agg26 Q0 hs Q1 Q0 Q0) ?_
         refine WL.s (Yr.storeB hs Q0 Q0 Q0 Q5 Q3 Q0 (by exact szf26)) ?_
         clear hs; rintro _ w hs
         refine Qa ?_
         refine WL.next ?_
         refine WC.ret ?_
         refine fin2c rfl agg26 Q0 Q0 hs Q1 Q0 ?_
         refine Ret.mk hs ?_
         rw [hpl9] at h5
         have hq9 : x2.l = splitC 59 s := hx2
         have h49 : 3 ≤ (splitC 59 s).length := by rw [← hq9]; omega
         have hb9 : policyIs s = true := policyIs_good h5 h49
         obtain ⟨G90, hs⟩ := Sat.cutow (lo := 1) (hi := x3.l.length) (hs.sel (D := [ow x3 F3]) Q2) (by rw [hx3]; exact List.length_pos_iff.2 (splitC_ne _ _)) (Nat.le_refl _)
         obtain ⟨G91, hs⟩ := Sat.cutow (lo := 1) (hi := x4.l.length) (hs.sel (D := [ow x4 F4]) Q2) (by rw [hx4]; exact List.length_pos_iff.2 (splitC_ne _ _)) (Nat.le_refl _)
         obtain ⟨G92, hs⟩ := Sat.cutow (lo := 1) (hi := x5.l.length) (hs.sel (D := [ow x5 F5]) Q2) (by rw [hx5]; exact List.length_pos_iff.2 (splitC_ne _ _)) (Nat.le_refl _)
         refine ⟨(⟨true, (x3.cut 1 x3.l.length), (x4.cut 1 x4.l.length), (x5.cut 1 x5.l.length), ([] : Str)⟩ : PPolicy), by rw [hb9]; rfl, hpl9.trans (policyOf_good h1 hb9).symm, ?_⟩
         exact (PPolicy.join _ (hs.only (D := [ow (x3.cut 1 x3.l.length) G90, ow (x4.cut 1 x4.l.length) G91, ow (x5.cut 1 x5.l.length) G92]) Q2) trivial (by show WfS _; unfold WfS; first | (simp only [List.length_take, List.length_drop]; omega) | simp)).fresh List.mem_cons_self
      ·
       replace h3 := of_decide_eq_false h3
       refine WL.skip (d := 34) Q0 Q0 Q0 Q0 ?_
       refine WL.skip (d := 34) Q0 Q0 Q0 Q0 ?_
       refine WL.skip (d := 34) Q0 Q0 Q0 Q0 ?_
       refine WL.skip (d := 34) Q0 Q0 Q0 Q0 ?_
       refine WL.skip (d := 34) Q0 Q0 Q0 Q0 ?_
       refine WL.p Q0 (Yl.pickF Q0 Q0) ?_
       refine WL.next ?_
       refine WC.condF Q0 ?_
       refine WC.skipn ?_
       refine WC.seq' ?_
       refine WC.seq ?_
       refine WL.p Q0 (Yl.loadAB agg26 Q0 hs Q1 Q0 Q0) ?_
       have hpl9 : PPolicy.lg (⟨true, (x3.cut 1 x3.l.length), (x4.cut 1 x4.l.length), (x5.cut 1 x5.l.length), ([] : Str)⟩ : PPolicy) = polS s := by
        have e2 : x2.l = splitC 59 s := hx2
        have g0 : x3.l = splitC 32 ((splitC 59 s).getD 0 []) := by rw [← e2]; exact hx3
        have g1 : x4.l = splitC 32 ((splitC 59 s).getD 1 []) := by rw [← e2]; exact hx4
        have g2 : x5.l = splitC 32 ((splitC 59 s).getD 2 []) := by rw [← e2]; exact hx5
        have c0 : (x3.cut 1 x3.l.length).l = (splitC 32 ((splitC 59 s).getD 0 [])).tail := by rw [Sl.cut_full, g0, List.drop_one]
        have c1 : (x4.cut 1 x4.l.length).l = (splitC 32 ((splitC 59 s).getD 1 [])).tail := by rw [Sl.cut_full, g1, List.drop_one]
        have c2 : (x5.cut 1 x5.l.length).l = (splitC 32 ((splitC 59 s).getD 2 [])).tail := by rw [Sl.cut_full, g2, List.drop_one]
        simp only [PPolicy.lg, polS, polOf, c0, c1, c2, TPolicy.mk.injEq, true_and]
        rw [← e2]
        first
         | (rw [if_neg (show ¬ 3 < x2.l.length from fun h => by omega)]; done)
         | (rw [if_pos (show 3 < x2.l.length from Int.ofNat_lt.1 Q7)]; done)
         | (rw [if_pos (show 3 < x2.l.length from Int.ofNat_lt.1 Q7)]
            simp only [nonceS, nonceI]
            first
              | (rfl; done)
              | (rw [if_neg Q7]; done)
              | (rw [if_pos Q7, List.take_of_length_le (by simp)]; done)
              | (rw [if_pos Q7]; done))
       refine WL.callp hs Q0 (Yc.func Q0 fn62) (c_spec_FormatPolicy (⟨true, (x3.cut 1 x3.l.length), (x4.cut 1 x4.l.length), (x5.cut 1 x5.l.length), ([] : Str)⟩ : PPolicy) _ ⟨trivial, (Sl.Ok.cut (hs.okow (x := x3) (F := F3) Q1) (by rw [hx3]; exact List.length_pos_iff.2 (splitC_ne _ _)) (by exact Nat.le_refl _)), (Sl.Ok.cut (hs.okow (x := x4) (F := F4) Q1) (by rw [hx4]; exact List.length_pos_iff.2 (splitC_ne _ _)) (by exact Nat.le_refl _)), (Sl.Ok.cut (hs.okow (x := x5) (F := F5) Q1) (by rw [hx5]; exact List.length_pos_iff.2 (splitC_ne _ _)) (by exact Nat.le_refl _)), (show WfS [] from Nat.zero_le _)⟩ (by rw [hpl9]; have := polS_size (s := s) (by rw [← show x2.l = splitC 59 s from hx2]; omega); omega)) ?_
       clear hs; intro w hs
       refine Qm ?_
       refine WL.p Q0 (Yl.nes Q0 Q0) ?_
       refine WL.next ?_
       refine WC.condS Q0 (fun h4 => ?_) (fun h4 => ?_)
       ·
        replace h4 := not_eq_true h4
        replace h4 := of_decide_eq_false h4
        refine WC.seq ?_
        refine WL.p Q0 (Yl.build bt26 Q0 Q4) ?_
        refine WL.s (Yr.storeB hs Q0 Q0 Q0 Q5 Q3 Q0 (by exact szf26)) ?_
        clear hs; rintro _ w hs
        refine Qa ?_
        refine WL.next ?_
        refine WC.ret ?_
        refine At.thenret ?_
        refine fin2c rfl agg26 Q0 Q0 hs Q1 Q0 ?_
        refine Ret.mk hs ?_
        rw [hpl9] at h4
        have hb9 : policyIs s = false := policyIs_bad h1 h4
        exact ⟨⟨false, ⟨[], none, 0⟩, ⟨[], none, 0⟩, ⟨[], none, 0⟩, []⟩, by rw [hb9]; rfl, (policyOf_no (.inr hb9)).symm, ⟨⟨[], PPolicy.zown _, .nil, fun b h => by cases h⟩⟩⟩
       ·
        replace h4 := not_eq_false h4
        replace h4 := of_decide_eq_true h4
        refine WC.skipn ?_
        refine WC.seq ?_
        refine WL.p Q0 (Yl.loadAB agg26 Q0 hs Q1 Q0 Q0) ?_
        refine WL.s (Yr.storeB hs Q0 Q0 Q0 Q5 Q3 Q0 (by exact szf26)) ?_
        clear hs; rintro _ w hs
        refine Qa ?_
        refine WL.next ?_
        refine WC.ret ?_
        refine fin2c rfl agg26 Q0 Q0 hs Q1 Q0 ?_
        refine Ret.mk hs ?_
        rw [hpl9] at h4
        have hq9 : x2.l = splitC 59 s := hx2
        have h49 : 3 ≤ (splitC 59 s).length := by rw [← hq9]; omega
        have hb9 : policyIs s = true := policyIs_good h4 h49
        obtain ⟨G90, hs⟩ := Sat.cutow (lo := 1) (hi := x3.l.length) (hs.sel (D := [ow x3 F3]) Q2) (by rw [hx3]; exact List.length_pos_iff.2 (splitC_ne _ _)) (Nat.le_refl _)
        obtain ⟨G91, hs⟩ := Sat.cutow (lo := 1) (hi := x4.l.length) (hs.sel (D := [ow x4 F4]) Q2) (by rw [hx4]; exact List.length_pos_iff.2 (splitC_ne _ _)) (Nat.le_refl _)
        obtain ⟨G92, hs⟩ := Sat.cutow (lo := 1) (hi := x5.l.length) (hs.sel (D := [ow x5 F5]) Q2) (by rw [hx5]; exact List.length_pos_iff.2 (splitC_ne _ _)) (Nat.le_refl _)
        refine ⟨(⟨true, (x3.cut 1 x3.l.length), (x4.cut 1 x4.l.length), (x5.cut 1 x5.l.length), ([] : Str)⟩ : PPolicy), by rw [hb9]; rfl, hpl9.trans (policyOf_good h1 hb9).symm, ?_⟩
        exact (PPolicy.join _ (hs.only (D := [ow (x3.cut 1 x3.l.length) G90, ow (x4.cut 1 x4.l.length) G91, ow (x5.cut 1 x5.l.length) G92]) Q2) trivial (by show WfS _; unfold WfS; first | (simp only [List.length_take, List.length_drop]; omega) | simp)).fresh List.mem_cons_self
     ·
      refine WI.r (i := 16) Q0 Q0 (Yr.alloc hs zt26) (by rintro _ w ⟨b7, rfl, hb, hs⟩; exact hs.only Q2) ?_
      clear hs; rintro _ w ⟨b7, rfl, hb, hs⟩; clear hb
      refine WA.call2 (i := 13) hs (fun _ hs => hs.only Q2) Q6 Q0 Q0 (Yc.func Q0 fn64) (c_spec_l5Split _ 32 _ (by first | (have := getD_len (s := s) (i := 0); rw [← show x2.l = splitC 59 s from hx2] at this; omega) | (have := getD_len (s := s) (i := 1); rw [← show x2.l = splitC 59 s from hx2] at this; omega) | (have := getD_len (s := s) (i := 2); rw [← show x2.l = splitC 59 s from hx2] at this; omega) | (have := getD_len (s := s) (i := 3); rw [← show x2.l = splitC 59 s from hx2] at this; omega))) ?_
      have hs0 := hs; clear hs; intro v w hb hR hs; clear hs
      obtain ⟨x8, rfl, hx8, hf8⟩ := hR
      obtain ⟨F8, hs⟩ := hf8.sat hs0 hb; clear hs0 hf8
      have hle8 := Sl.Ok.le (hs.okow (x := x8) (F := F8) Q1)
      refine WA.r (i := 14) Q6 Q0 Q0 (Yl.yr (Yl.slice_sl (s := x8) (l := 1) (h := x8.l.length) slt24 Q0 hle8 (by exact ⟨_, by rfl⟩) (by exact rfl) (by rw [hx8]; exact List.length_pos_iff.2 (splitC_ne _ _)) (by exact Nat.le_refl _))) (by rintro _ _ ⟨rfl, rfl⟩; exact hs.only Q2) ?_
      rintro _ _ ⟨rfl, rfl⟩
      refine WA.p (i := 15) Q0 Q6 Q6 Q6 Q0 (hs.only Q2) (fun w hs => Yl.build bt26 Q0 Q4) ?_
      refine WA.s (i := 17) Q6 Q0 (Yr.storeB hs Q0 Q0 Q0 Q5 Q3 Q0 (by exact szf26)) (by rintro _ w hs; exact hs.only Q2) ?_
      clear hs; rintro _ w hs
      refine WA.donen Q6 ?_
      refine WC.seq' ?_
      refine WC.seq ?_
      refine Qm ?_
      refine WL.p Q0 (Yl.len_sl slu24 Q0) ?_
      refine WL.p Q0 (Yl.gtr Q0 Q0) ?_
      refine Qm ?_
      refine WL.split (d := 34) Q0 (fun h3 => ?_) (fun h3 => ?_)
      ·
       replace h3 := of_decide_eq_true h3
       refine WL.run (d := 34) Q0 Q0 ?_
       refine Qm ?_
       refine WL.run (d := 34) Q0 Q0 ?_
       refine WL.p Q0 (Yl.indexAddr (k := 3) slt24 Q0 Q0 (hs.okow (x := x2) (F := F2) Q1) Q0 ((getD_some (i := 3) (z := ([] : Str)) Q7))) ?_
       refine WL.run (d := 34) Q0 Q0 ?_
       refine WL.p Q0 (Yl.loadC0 sca9 Q0 (Sl.Ok.at_ (hs.okow (x := x2) (F := F2) Q1) ((getD_some (i := 3) (z := ([] : Str)) Q7))).2 Q0) ?_
       refine WL.run (d := 34) Q0 Q0 ?_
       refine WL.p Q0 (Yl.len_str str9 Q0) ?_
       refine WL.run (d := 34) Q0 Q0 ?_
       refine WL.p Q0 (Yl.gtr Q0 Q0) ?_
       refine WL.p Q0 (Yl.pickT Q0 Q0) ?_
       refine WL.next ?_
       refine WC.condS Q0 (fun h4 => ?_) (fun h4 => ?_)
       ·
        replace h4 := of_decide_eq_true h4
        refine WC.region ?_
        refine Qm ?_
        refine WL.p Q0 (Yl.indexAddr (k := 3) slt24 Q0 Q0 (hs.okow (x := x2) (F := F2) Q1) Q0 ((getD_some (i := 3) (z := ([] : Str)) Q7))) ?_
        refine WL.p Q0 (Yl.loadC0 sca9 Q0 (Sl.Ok.at_ (hs.okow (x := x2) (F := F2) Q1) ((getD_some (i := 3) (z := ([] : Str)) Q7))).2 Q0) ?_
        refine WL.p Q0 (Yl.slice_str (l := 6) str9 Q0 (by exact ⟨_, by rfl⟩) (by exact rfl) Q7 Q7) ?_
        refine WL.p Q0 (Yl.fieldAddr fa26_4 Q0) ?_
        refine WL.s (Yr.storeB hs Q0 Q0 Q0 Q5 Q3 Q0 (by exact szf9)) ?_
        clear hs; rintro _ w hs
        refine WL.nil ?_
        refine At.then_ ?_
        refine WC.seq' ?_
        refine WC.seq ?_
        refine WL.p Q0 (Yl.loadAB agg26 Q0 hs Q1 Q0 Q0) ?_
        have hpl9 : PPolicy.lg (⟨true, (x3.cut 1 x3.l.length), (x4.cut 1 x4.l.length), (x8.cut 1 x8.l.length), (((x2.l.getD 3 []).drop 6).take ((x2.l.getD 3 []).length - 6))⟩ : PPolicy) = polS s := by
         have e2 : x2.l = splitC 59 s := hx2
         have g0 : x3.l = splitC 32 ((splitC 59 s).getD 0 []) := by rw [← e2]; exact hx3
         have g1 : x4.l = splitC 32 ((splitC 59 s).getD 1 []) := by rw [← e2]; exact hx4
         have g2 : x8.l = splitC 32 ((splitC 59 s).getD 2 []) := by rw [← e2]; exact hx8
         have c0 : (x3.cut 1 x3.l.length).l = (splitC 32 ((splitC 59 s).getD 0 [])).tail := by rw [Sl.cut_full, g0, List.drop_one]
         have c1 : (x4.cut 1 x4.l.length).l = (splitC 32 ((splitC 59 s).getD 1 [])).tail := by rw [Sl.cut_full, g1, List.drop_one]
         have c2 : (x8.cut 1 x8.l.length).l = (splitC 32 ((splitC 59 s).getD 2 [])).tail := by rw [Sl.cut_full, g2, List.drop_one]
         simp only [PPolicy.lg, polS, polOf, c0, c1, c2, TPolicy.mk.injEq, true_and]
         rw [← e2]
         first
          | (rw [if_neg (show ¬ 3 < x2.l.length from fun h => by omega)]; done)
          | (rw [if_pos (show 3 < x2.l.length from Int.ofNat_lt.1 Q7)]; done)
          | (rw [if_pos (show 3 < x2.l.length from Int.ofNat_lt.1 Q7)]
             simp only [nonceS, nonceI]
             first
               | (rfl; done)
               | (rw [if_neg Q7]; done)
               | (rw [if_pos Q7, List.take_of_length_le (by simp)]; done)
               | (rw [if_pos Q7]; done))
        refine WL.callp hs Q0 (Yc.func Q0 fn62) (c_spec_FormatPolicy (⟨true, (x3.cut 1 x3.l.length), (x4.cut 1 x4.l.length), (x8.cut 1 x8.l.length), (((x2.l.getD 3 []).drop 6).take ((x2.l.getD 3 []).length - 6))⟩ : PPolicy) _ ⟨trivial, (Sl.Ok.cut (hs.okow (x := x3) (F := F3) Q1) (by rw [hx3]; exact List.length_pos_iff.2 (splitC_ne _ _)) (by exact Nat.le_refl _)), (Sl.Ok.cut (hs.okow (x := x4) (F := F4) Q1) (by rw [hx4]; exact List.length_pos_iff.2 (splitC_ne _ _)) (by exact Nat.le_refl _)), (Sl.Ok.cut (hs.okow (x := x8) (F := F8) Q1) (by rw [hx8]; exact List.length_pos_iff.2 (splitC_ne _ _)) (by exact Nat.le_refl _)), (by show WfS _; unfold WfS; simp only [List.length_take, List.length_drop]; omega)⟩ (by rw [hpl9]; have := polS_size (s := s) (by rw [← show x2.l = splitC 59 s from hx2]; omega); omega)) ?_
        clear hs; intro w hs
        refine Qm ?_
        refine WL.p Q0 (Yl.nes Q0 Q0) ?_
        refine WL.next ?_
        refine WC.condS Q0 (fun h5 => ?_) (fun h5 => ?_)
        ·
         replace h5 := not_eq_true h5
         replace h5 := of_decide_eq_false h5
         refine WC.seq ?_
         refine WL.p Q0 (Yl.build bt26 Q0 Q4) ?_
         refine WL.s (Yr.storeB hs Q0 Q0 Q0 Q5 Q3 Q0 (by exact szf26)) ?_
         clear hs; rintro _ w hs
         refine Qa ?_
         refine WL.next ?_
         refine WC.ret ?_
         refine At.thenret ?_
         refine fin2c rfl agg26 Q0 Q0 hs Q1 Q0 ?_
         refine Ret.mk hs ?_
         rw [hpl9] at h5
         have hb9 : policyIs s = false := policyIs_bad h1 h5
         exact ⟨⟨false, ⟨[], none, 0⟩, ⟨[], none, 0⟩, ⟨[], none, 0⟩, []⟩, by rw [hb9]; rfl, (policyOf_no (.inr hb9)).symm, ⟨⟨[], PPolicy.zown _, .nil, fun b h => by cases h⟩⟩⟩
        ·
         replace h5 := not_eq_false h5
         replace h5 := of_decide_eq_true h5
         refine WC.skipn ?_
         refine WC.seq ?_
         refine WL.p Q0 (Yl.loadAB agg26 Q0 hs Q1 Q0 Q0) ?_
         refine WL.s (Yr.storeB hs Q0 Q0 Q0 Q5 Q3 Q0 (by exact szf26)) ?_
         clear hs; rintro _ w hs
         refine Qa ?_
         refine WL.next ?_
         refine WC.ret ?_
         refine fin2c rfl agg26 Q0 Q0 hs Q1 Q0 ?_
         refine Ret.mk hs ?_
         rw [hpl9] at h5
         have hq9 : x2.l = splitC 59 s := hx2
         have h49 : 3 ≤ (splitC 59 s).length := by rw [← hq9]; omega
         have hb9 : policyIs s = true := policyIs_good h5 h49
         obtain ⟨G90, hs⟩ := Sat.cutow (lo := 1) (hi := x3.l.length) (hs.sel (D := [ow x3 F3]) Q2) (by rw [hx3]; exact List.length_pos_iff.2 (splitC_ne _ _)) (Nat.le_refl _)
         obtain ⟨G91, hs⟩ := Sat.cutow (lo := 1) (hi := x4.l.length) (hs.sel (D := [ow x4 F4]) Q2) (by rw [hx4]; exact List.length_pos_iff.2 (splitC_ne _ _)) (Nat.le_refl _)
         obtain ⟨G92, hs⟩ := Sat.cutow (lo := 1) (hi := x8.l.length) (hs.sel (D := [ow x8 F8]) Q2) (by rw [hx8]; exact List.length_pos_iff.2 (splitC_ne _ _)) (Nat.le_refl _)
         refine ⟨(⟨true, (x3.cut 1 x3.l.length), (x4.cut 1 x4.l.length), (x8.cut 1 x8.l.length), (((x2.l.getD 3 []).drop 6).take ((x2.l.getD 3 []).length - 6))⟩ : PPolicy), by rw [hb9]; rfl, hpl9.trans (policyOf_good h1 hb9).symm, ?_⟩
         exact (PPolicy.join _ (hs.only (D := [ow (x3.cut 1 x3.l.length) G90, ow (x4.cut 1 x4.l.length) G91, ow (x8.cut 1 x8.l.length) G92]) Q2) trivial (by show WfS _; unfold WfS; first | (simp only [List.length_take, List.length_drop]; omega) | simp)).fresh List.mem_cons_self
       ·
        replace h4 := of_decide_eq_false h4
        refine WC.skipn ?_
        refine WC.seq' ?_
        refine WC.seq ?_
        refine WL.p Q0 (Yl.loadAB agg26 Q0 hs Q1 Q0 Q0) ?_
        have hpl9 : PPolicy.lg (⟨true, (x3.cut 1 x3.l.length), (x4.cut 1 x4.l.length), (x8.cut 1 x8.l.length), ([] : Str)⟩ : PPolicy) = polS s := by
         have e2 : x2.l = splitC 59 s := hx2
         have g0 : x3.l = splitC 32 ((splitC 59 s).getD 0 []) := by rw [← e2]; exact hx3
         have g1 : x4.l = splitC 32 ((splitC 59 s).getD 1 []) := by rw [← e2]; exact hx4
         have g2 : x8.l = splitC 32 ((splitC 59 s).getD 2 []) := by rw [← e2]; exact hx8
         have c0 : (x3.cut 1 x3.l.length).l = (splitC 32 ((splitC 59 s).getD 0 [])).tail := by rw [Sl.cut_full, g0, List.drop_one]
         have c1 : (x4.cut 1 x4.l.length).l = (splitC 32 ((splitC 59 s).getD 1 [])).tail := by rw [Sl.cut_full, g1, List.drop_one]
         have c2 : (x8.cut 1 x8.l.length).l = (splitC 32 ((splitC 59 s).getD 2 [])).tail := by rw [Sl.cut_full, g2, List.drop_one]
         simp only [PPolicy.lg, polS, polOf, c0, c1, c2, TPolicy.mk.injEq, true_and]
         rw [← e2]
         first
          | (rw [if_neg (show ¬ 3 < x2.l.length from fun h => by omega)]; done)
          | (rw [if_pos (show 3 < x2.l.length from Int.ofNat_lt.1 Q7)]; done)
          | (rw [if_pos (show 3 < x2.l.length from Int.ofNat_lt.1 Q7)]
             simp only [nonceS, nonceI]
             first
               | (rfl; done)
               | (rw [if_neg Q7]; done)
               | (rw [if_pos Q7, List.take_of_length_le (by simp)]; done)
               | (rw [if_pos Q7]; done))
        refine WL.callp hs Q0 (Yc.func Q0 fn62) (c_spec_FormatPolicy (⟨true, (x3.cut 1 x3.l.length), (x4.cut 1 x4.l.length), (x8.cut 1 x8.l.length), ([] : Str)⟩ : PPolicy) _ ⟨trivial, (Sl.Ok.cut (hs.okow (x := x3) (F := F3) Q1) (by rw [hx3]; exact List.length_pos_iff.2 (splitC_ne _ _)) (by exact Nat.le_refl _)), (Sl.Ok.cut (hs.okow (x := x4) (F := F4) Q1) (by rw [hx4]; exact List.length_pos_iff.2 (splitC_ne _ _)) (by exact Nat.le_refl _)), (Sl.Ok.cut (hs.okow (x := x8) (F := F8) Q1) (by rw [hx8]; exact List.length_pos_iff.2 (splitC_ne _ _)) (by exact Nat.le_refl _)), (show WfS [] from Nat.zero_le _)⟩ (by rw [hpl9]; have := polS_size (s := s) (by rw [← show x2.l = splitC 59 s from hx2]; omega); omega)) ?_
        clear hs; intro w hs
        refine Qm ?_
        refine WL.p Q0 (Yl.nes Q0 Q0) ?_
        refine WL.next ?_
        refine WC.condS Q0 (fun h5 => ?_) (fun h5 => ?_)
        ·
         replace h5 := not_eq_true h5
         replace h5 := of_decide_eq_false h5
         refine WC.seq ?_
         refine WL.p Q0 (Yl.build bt26 Q0 Q4) ?_
         refine WL.s (Yr.storeB hs Q0 Q0 Q0 Q5 Q3 Q0 (by exact szf26)) ?_
         clear hs; rintro _ w hs
         refine Qa ?_
         refine WL.next ?_
         refine WC.ret ?_
         refine At.thenret ?_
         refine fin2c rfl agg26 Q0 Q0 hs Q1 Q0 ?_
         refine Ret.mk hs ?_
         rw [hpl9] at h5
         have hb9 : policyIs s = false := policyIs_bad h1 h5
         exact ⟨⟨false, ⟨[], none, 0⟩, ⟨[], none, 0⟩, ⟨[], none, 0⟩, []⟩, by rw [hb9]; rfl, (policyOf_no (.inr hb9)).symm, ⟨⟨[], PPolicy.zown _, .nil, fun b h => by cases h⟩⟩⟩
        ·
         replace h5 := not_eq_false h5
         replace h5 := of_decide_eq_true h5
         refine WC.skipn ?_
         refine WC.seq ?_
         refine WL.p Q0 (Yl.loadAB agg26 Q0 hs Q1 Q0 Q0) ?_
         refine WL.s (Yr.storeB hs Q0 Q0 Q0 Q5 Q3 Q0 (by exact szf26)) ?_
         clear hs; rintro _ w hs
         refine Qa ?_
         refine WL.next ?_
         refine WC.ret ?_
         refine fin2c rfl agg26 Q0 Q0 hs Q1 Q0 ?_
         refine Ret.mk hs ?_
         rw [hpl9] at h5
         have hq9 : x2.l = splitC 59 s := hx2
         have h49 : 3 ≤ (splitC 59 s).length := by rw [← hq9]; omega
         have hb9 : policyIs s = true := policyIs_good h5 h49
         obtain ⟨G90, hs⟩ := Sat.cutow (lo := 1) (hi := x3.l.length) (hs.sel (D := [ow x3 F3]) Q2) (by rw [hx3]; exact List.length_pos_iff.2 (splitC_ne _ _)) (Nat.le_refl _)
         obtain ⟨G91, hs⟩ := Sat.cutow (lo := 1) (hi := x4.l.length) (hs.sel (D := [ow x4 F4]) Q2) (by rw [hx4]; exact List.length_pos_iff.2 (splitC_ne _ _)) (Nat.le_refl _)
         obtain ⟨G92, hs⟩ := Sat.cutow (lo := 1) (hi := x8.l.length) (hs.sel (D := [ow x8 F8]) Q2) (by rw [hx8]; exact List.length_pos_iff.2 (splitC_ne _ _)) (Nat.le_refl _)
         refine ⟨(⟨true, (x3.cut 1 x3.l.length), (x4.cut 1 x4.l.length), (x8.cut 1 x8.l.length), ([] : Str)⟩ : PPolicy), by rw [hb9]; rfl, hpl9.trans (policyOf_good h1 hb9).symm, ?_⟩
         exact (PPolicy.join _ (hs.only (D := [ow (x3.cut 1 x3.l.length) G90, ow (x4.cut 1 x4.l.length) G91, ow (x8.cut 1 x8.l.length) G92]) Q2) trivial (by show WfS _; unfold WfS; first | (simp only [List.length_take, List.length_drop]; omega) | simp)).fresh List.mem_cons_self
      ·
       replace h3 := of_decide_eq_false h3
       refine WL.skip (d := 34) Q0 Q0 Q0 Q0 ?_
       refine WL.skip (d := 34) Q0 Q0 Q0 Q0 ?_
       refine WL.skip (d := 34) Q0 Q0 Q0 Q0 ?_
       refine WL.skip (d := 34) Q0 Q0 Q0 Q0 ?_
       refine WL.skip (d := 34) Q0 Q0 Q0 Q0 ?_
       refine WL.p Q0 (Yl.pickF Q0 Q0) ?_
       refine WL.next ?_
       refine WC.condF Q0 ?_
       refine WC.skipn ?_
       refine WC.seq' ?_
       refine WC.seq ?_
       refine WL.p Q0 (Yl.loadAB agg26 Q0 hs Q1 Q0 Q0) ?_
       have hpl9 : PPolicy.lg (⟨true, (x3.cut 1 x3.l.length), (x4.cut 1 x4.l.length), (x8.cut 1 x8.l.length), ([] : Str)⟩ : PPolicy) = polS s := by
        have e2 : x2.l = splitC 59 s := hx2
        have g0 : x3.l = splitC 32 ((splitC 59 s).getD 0 []) := by rw [← e2]; exact hx3
        have g1 : x4.l = splitC 32 ((splitC 59 s).getD 1 []) := by rw [← e2]; exact hx4
        have g2 : x8.l = splitC 32 ((splitC 59 s).getD 2 []) := by rw [← e2]; exact hx8
        have c0 : (x3.cut 1 x3.l.length).l = (splitC 32 ((splitC 59 s).getD 0 [])).tail := by rw [Sl.cut_full, g0, List.drop_one]
        have c1 : (x4.cut 1 x4.l.length).l = (splitC 32 ((splitC 59 s).getD 1 [])).tail := by rw [Sl.cut_full, g1, List.drop_one]
        have c2 : (x8.cut 1 x8.l.length).l = (splitC 32 ((splitC 59 s).getD 2 [])).tail := by rw [Sl.cut_full, g2, List.drop_one]
        simp only [PPolicy.lg, polS, polOf, c0, c1, c2, TPolicy.mk.injEq, true_and]
        rw [← e2]
        first
         | (rw [if_neg (show ¬ 3 < x2.l.length from fun h => by omega)]; done)
         | (rw [if_pos (show 3 < x2.l.length from Int.ofNat_lt.1 Q7)]; done)
         | (rw [if_pos (show 3 < x2.l.length from Int.ofNat_lt.1 Q7)]
            simp only [nonceS, nonceI]
            first
              | (rfl; done)
              | (rw [if_neg Q7]; done)
              | (rw [if_pos Q7, List.take_of_length_le (by simp)]; done)
              | (rw [if_pos Q7]; done))
       refine WL.callp hs Q0 (Yc.func Q0 fn62) (c_spec_FormatPolicy (⟨true, (x3.cut 1 x3.l.length), (x4.cut 1 x4.l.length), (x8.cut 1 x8.l.length), ([] : Str)⟩ : PPolicy) _ ⟨trivial, (Sl.Ok.cut (hs.okow (x := x3) (F := F3) Q1) (by rw [hx3]; exact List.length_pos_iff.2 (splitC_ne _ _)) (by exact Nat.le_refl _)), (Sl.Ok.cut (hs.okow (x := x4) (F := F4) Q1) (by rw [hx4]; exact List.length_pos_iff.2 (splitC_ne _ _)) (by exact Nat.le_refl _)), (Sl.Ok.cut (hs.okow (x := x8) (F := F8) Q1) (by rw [hx8]; exact List.length_pos_iff.2 (splitC_ne _ _)) (by exact Nat.le_refl _)), (show WfS [] from Nat.zero_le _)⟩ (by rw [hpl9]; have := polS_size (s := s) (by rw [← show x2.l = splitC 59 s from hx2]; omega); omega)) ?_
       clear hs; intro w hs
       refine Qm ?_
       refine WL.p Q0 (Yl.nes Q0 Q0) ?_
       refine WL.next ?_
       refine WC.condS Q0 (fun h4 => ?_) (fun h4 => ?_)
       ·
        replace h4 := not_eq_true h4
        replace h4 := of_decide_eq_false h4
        refine WC.seq ?_
        refine WL.p Q0 (Yl.build bt26 Q0 Q4) ?_
        refine WL.s (Yr.storeB hs Q0 Q0 Q0 Q5 Q3 Q0 (by exact szf26)) ?_
        clear hs; rintro _ w hs
        refine Qa ?_
        refine WL.next ?_
        refine WC.ret ?_
        refine At.thenret ?_
        refine fin2c rfl agg26 Q0 Q0 hs Q1 Q0 ?_
        refine Ret.mk hs ?_
        rw [hpl9] at h4
        have hb9 : policyIs s = false := policyIs_bad h1 h4
        exact ⟨⟨false, ⟨[], none, 0⟩, ⟨[], none, 0⟩, ⟨[], none, 0⟩, []⟩, by rw [hb9]; rfl, (policyOf_no (.inr hb9)).symm, ⟨⟨[], PPolicy.zown _, .nil, fun b h => by cases h⟩⟩⟩
       ·
        replace h4 := not_eq_false h4
        replace h4 := of_decide_eq_true h4
        refine WC.skipn ?_
        refine WC.seq ?_
        refine WL.p Q0 (Yl.loadAB agg26 Q0 hs Q1 Q0 Q0) ?_
        refine WL.s (Yr.storeB hs Q0 Q0 Q0 Q5 Q3 Q0 (by exact szf26)) ?_
        clear hs; rintro _ w hs
        refine Qa ?_
        refine WL.next ?_
        refine WC.ret ?_
        refine fin2c rfl agg26 Q0 Q0 hs Q1 Q0 ?_
        refine Ret.mk hs ?_
        rw [hpl9] at h4
        have hq9 : x2.l = splitC 59 s := hx2
        have h49 : 3 ≤ (splitC 59 s).length := by rw [← hq9]; omega
        have hb9 : policyIs s = true := policyIs_good h4 h49
        obtain ⟨G90, hs⟩ := Sat.cutow (lo := 1) (hi := x3.l.length) (hs.sel (D := [ow x3 F3]) Q2) (by rw [hx3]; exact List.length_pos_iff.2 (splitC_ne _ _)) (Nat.le_refl _)
        obtain ⟨G91, hs⟩ := Sat.cutow (lo := 1) (hi := x4.l.length) (hs.sel (D := [ow x4 F4]) Q2) (by rw [hx4]; exact List.length_pos_iff.2 (splitC_ne _ _)) (Nat.le_refl _)
        obtain ⟨G92, hs⟩ := Sat.cutow (lo := 1) (hi := x8.l.length) (hs.sel (D := [ow x8 F8]) Q2) (by rw [hx8]; exact List.length_pos_iff.2 (splitC_ne _ _)) (Nat.le_refl _)
        refine ⟨(⟨true, (x3.cut 1 x3.l.length), (x4.cut 1 x4.l.length), (x8.cut 1 x8.l.length), ([] : Str)⟩ : PPolicy), by rw [hb9]; rfl, hpl9.trans (policyOf_good h1 hb9).symm, ?_⟩
        exact (PPolicy.join _ (hs.only (D := [ow (x3.cut 1 x3.l.length) G90, ow (x4.cut 1 x4.l.length) G91, ow (x8.cut 1 x8.l.length) G92]) Q2) trivial (by show WfS _; unfold WfS; first | (simp only [List.length_take, List.length_drop]; omega) | simp)).fresh List.mem_cons_self
    ·
     refine WI.r (i := 16) Q0 Q0 (Yr.alloc hs zt26) (by rintro _ w ⟨b9, rfl, hb, hs⟩; exact hs.only Q2) ?_
     clear hs; rintro _ w ⟨b9, rfl, hb, hs⟩; clear hb
     refine WA.call2 (i := 8) hs (fun _ hs => hs.only Q2) Q6 Q0 Q0 (Yc.func Q0 fn64) (c_spec_l5Split _ 32 _ (by first | (have := getD_len (s := s) (i := 0); rw [← show x2.l = splitC 59 s from hx2] at this; omega) | (have := getD_len (s := s) (i := 1); rw [← show x2.l = splitC 59 s from hx2] at this; omega) | (have := getD_len (s := s) (i := 2); rw [← show x2.l = splitC 59 s from hx2] at this; omega) | (have := getD_len (s := s) (i := 3); rw [← show x2.l = splitC 59 s from hx2] at this; omega))) ?_
     have hs0 := hs; clear hs; intro v w hb hR hs; clear hs
     obtain ⟨x10, rfl, hx10, hf10⟩ := hR
     obtain ⟨F10, hs⟩ := hf10.sat hs0 hb; clear hs0 hf10
     have hle10 := Sl.Ok.le (hs.okow (x := x10) (F := F10) Q1)
     refine WA.p (i := 9) Q0 Q6 Q6 Q6 Q0 (hs.only Q2) (fun w hs => Yl.slice_sl (s := x10) (l := 1) (h := x10.l.length) slt24 Q0 hle10 (by exact ⟨_, by rfl⟩) (by exact rfl) (by rw [hx10]; exact List.length_pos_iff.2 (splitC_ne _ _)) (by exact Nat.le_refl _)) ?_
     refine WA.call2 (i := 13) hs (fun _ hs => hs.only Q2) Q6 Q0 Q0 (Yc.func Q0 fn64) (c_spec_l5Split _ 32 _ (by first | (have := getD_len (s := s) (i := 0); rw [← show x2.l = splitC 59 s from hx2] at this; omega) | (have := getD_len (s := s) (i := 1); rw [← show x2.l = splitC 59 s from hx2] at this; omega) | (have := getD_len (s := s) (i := 2); rw [← show x2.l = splitC 59 s from hx2] at this; omega) | (have := getD_len (s := s) (i := 3); rw [← show x2.l = splitC 59 s from hx2] at this; omega))) ?_
     have hs0 := hs; clear hs; intro v w hb hR hs; clear hs
     obtain ⟨x11, rfl, hx11, hf11⟩ := hR
     obtain ⟨F11, hs⟩ := hf11.sat hs0 hb; clear hs0 hf11
     have hle11 := Sl.Ok.le (hs.okow (x := x11) (F := F11) Q1)
     refine WA.r (i := 14) Q6 Q0 Q0 (Yl.yr (Yl.slice_sl (s := x11) (l := 1) (h := x11.l.length) slt24 Q0 hle11 (by exact ⟨_, by rfl⟩) (by exact rfl) (by rw [hx11]; exact List.length_pos_iff.2 (splitC_ne _ _)) (by exact Nat.le_refl _))) (by rintro _ _ ⟨rfl, rfl⟩; exact hs.only Q2) ?_
     rintro _ _ ⟨rfl, rfl⟩
     refine WA.p (i := 15) Q0 Q6 Q6 Q6 Q0 (hs.only Q2) (fun w hs => Yl.build bt26 Q0 Q4) ?_
     refine WA.s (i := 17) Q6 Q0 (Yr.storeB hs Q0 Q0 Q0 Q5 Q3 Q0 (by exact szf26)) (by rintro _ w hs; exact hs.only Q2) ?_
     clear hs; rintro _ w hs
     refine WA.donen Q6 ?_
     refine WC.seq' ?_
     refine WC.seq ?_
     refine Qm ?_
     refine WL.p Q0 (Yl.len_sl slu24 Q0) ?_
     refine WL.p Q0 (Yl.gtr Q0 Q0) ?_
     refine Qm ?_
     refine WL.split (d := 34) Q0 (fun h3 => ?_) (fun h3 => ?_)
     ·
      replace h3 := of_decide_eq_true h3
      refine WL.run (d := 34) Q0 Q0 ?_
      refine Qm ?_
      refine WL.run (d := 34) Q0 Q0 ?_
      refine WL.p Q0 (Yl.indexAddr (k := 3) slt24 Q0 Q0 (hs.okow (x := x2) (F := F2) Q1) Q0 ((getD_some (i := 3) (z := ([] : Str)) Q7))) ?_
      refine WL.run (d := 34) Q0 Q0 ?_
      refine WL.p Q0 (Yl.loadC0 sca9 Q0 (Sl.Ok.at_ (hs.okow (x := x2) (F := F2) Q1) ((getD_some (i := 3) (z := ([] : Str)) Q7))).2 Q0) ?_
      refine WL.run (d := 34) Q0 Q0 ?_
      refine WL.p Q0 (Yl.len_str str9 Q0) ?_
      refine WL.run (d := 34) Q0 Q0 ?_
      refine WL.p Q0 (Yl.gtr Q0 Q0) ?_
      refine WL.p Q0 (Yl.pickT Q0 Q0) ?_
      refine WL.next ?_
      refine WC.condS Q0 (fun h4 => ?_) (fun h4 => ?_)
      ·
       replace h4 := of_decide_eq_true h4
       refine WC.region ?_
       refine Qm ?_
       refine WL.p Q0 (Yl.indexAddr (k := 3) slt24 Q0 Q0 (hs.okow (x := x2) (F := F2) Q1) Q0 ((getD_some (i := 3) (z := ([] : Str)) Q7))) ?_
       refine WL.p Q0 (Yl.loadC0 sca9 Q0 (Sl.Ok.at_ (hs.okow (x := x2) (F := F2) Q1) ((getD_some (i := 3) (z := ([] : Str)) Q7))).2 Q0) ?_
       refine WL.p Q0 (Yl.slice_str (l := 6) str9 Q0 (by exact ⟨_, by rfl⟩) (by exact rfl) Q7 Q7) ?_
       refine WL.p Q0 (Yl.fieldAddr fa26_4 Q0) ?_
       refine WL.s (Yr.storeB hs Q0 Q0 Q0 Q5 Q3 Q0 (by exact szf9)) ?_
       clear hs; rintro _ w hs
       refine WL.nil ?_
       refine At.then_ ?_
       refine WC.seq' ?_
       refine WC.seq ?_
       refine WL.p Q0 (Yl.loadAB agg26 Q0 hs Q1 Q0 Q0) ?_
       have hpl9 : PPolicy.lg (⟨true, (x3.cut 1 x3.l.length), (x10.cut 1 x10.l.length), (x11.cut 1 x11.l.length), (((x2.l.getD 3 []).drop 6).take ((x2.l.getD 3 []).length - 6))⟩ : PPolicy) = polS s := by
        have e2 : x2.l = splitC 59 s := hx2
        have g0 : x3.l = splitC 32 ((splitC 59 s).getD 0 []) := by rw [← e2]; exact hx3
        have g1 : x10.l = splitC 32 ((splitC 59 s).getD 1 []) := by rw [← e2]; exact hx10
        have g2 : x11.l = splitC 32 ((splitC 59 s).getD 2 []) := by rw [← e2]; exact hx11
        have c0 : (x3.cut 1 x3.l.length).l = (splitC 32 ((splitC 59 s).getD 0 [])).tail := by rw [Sl.cut_full, g0, List.drop_one]
        have c1 : (x10.cut 1 x10.l.length).l = (splitC 32 ((splitC 59 s).getD 1 [])).tail := by rw [Sl.cut_full, g1, List.drop_one]
        have c2 : (x11.cut 1 x11.l.length).l = (splitC 32 ((splitC 59 s).getD 2 [])).tail := by rw [Sl.cut_full, g2, List.drop_one]
        simp only [PPolicy.lg, polS, polOf, c0, c1, c2, TPolicy.mk.injEq, true_and]
        rw [← e2]
        first
         | (rw [if_neg (show ¬ 3 < x2.l.length from fun h => by omega)]; done)
         | (rw [if_pos (show 3 < x2.l.length from Int.ofNat_lt.1 Q7)]; done)
         | (rw [if_pos (show 3 < x2.l.length from Int.ofNat_lt.1 Q7)]
            simp only [nonceS, nonceI]
            first
              | (rfl; done)
              | (rw [if_neg Q7]; done)
              | (rw [if_pos Q7, List.take_of_length_le (by simp)]; done)
              | (rw [if_pos Q7]; done))
       refine WL.callp hs Q0 (Yc.func Q0 fn62) (c_spec_FormatPolicy (⟨true, (x3.cut 1 x3.l.length), (x10.cut 1 x10.l.length), (x11.cut 1 x11.l.length), (((x2.l.getD 3 []).drop 6).take ((x2.l.getD 3 []).length - 6))⟩ : PPolicy) _ ⟨trivial, (Sl.Ok.cut (hs.okow (x := x3) (F := F3) Q1) (by rw [hx3]; exact List.length_pos_iff.2 (splitC_ne _ _)) (by exact Nat.le_refl _)), (Sl.Ok.cut (hs.okow (x := x10) (F := F10) Q1) (by rw [hx10]; exact List.length_pos_iff.2 (splitC_ne _ _)) (by exact Nat.le_refl _)), (Sl.Ok.cut (hs.okow (x := x11) (F := F11) Q1) (by rw [hx11]; exact List.length_pos_iff.2 (splitC_ne _ _)) (by exact Nat.le_refl _)), (by show WfS _; unfold WfS; simp only [List.length_take, List.length_drop]; omega)⟩ (by rw [hpl9]; have := polS_size (s := s) (by rw [← show x2.l = splitC 59 s from hx2]; omega); omega)) ?_
       clear hs; intro w hs
       refine Qm ?_
       refine WL.p Q0 (Yl.nes Q0 Q0) ?_
       refine WL.next ?_
       refine WC.condS Q0 (fun h5 => ?_) (fun h5 => ?_)
       ·
        replace h5 := not_eq_true h5
        replace h5 := of_decide_eq_false h5
        refine WC.seq ?_
        refine WL.p Q0 (Yl.build bt26 Q0 Q4) ?_
        refine WL.s (Yr.storeB hs Q0 Q0 Q0 Q5 Q3 Q0 (by exact szf26)) ?_
        clear hs; rintro _ w hs
        refine Qa ?_
        refine WL.next ?_
        refine WC.ret ?_
        refine At.thenret ?_
        refine fin2c rfl agg26 Q0 Q0 hs Q1 Q0 ?_
        refine Ret.mk hs ?_
        rw [hpl9] at h5
        have hb9 : policyIs s = false := policyIs_bad h1 h5
        exact ⟨⟨false, ⟨[], none, 0⟩, ⟨[], none, 0⟩, ⟨[], none, 0⟩, []⟩, by rw [hb9]; rfl, (policyOf_no (.inr hb9)).symm, ⟨⟨[], PPolicy.zown _, .nil, fun b h => by cases h⟩⟩⟩
       ·
        replace h5 := not_eq_false h5
        replace h5 := of_decide_eq_true h5
        refine WC.skipn ?_
        refine WC.seq ?_
        refine WL.p Q0 (Yl.loadAB agg26 Q0 hs Q1 Q0 Q0) ?_
        refine WL.s (Yr.storeB hs Q0 Q0 Q0 Q5 Q3 Q0 (by exact szf26)) ?_
        clear hs; rintro _ w hs
        refine Qa ?_
        refine WL.next ?_
        refine WC.ret ?_
        refine fin2c rfl agg26 Q0 Q0 hs Q1 Q0 ?_
        refine Ret.mk hs ?_
        rw [hpl9] at h5
        have hq9 : x2.l = splitC 59 s := hx2
        have h49 : 3 ≤ (splitC 59 s).length := by rw [← hq9]; omega
        have hb9 : policyIs s = true := policyIs_good h5 h49
        obtain ⟨G90, hs⟩ := Sat.cutow (lo := 1) (hi := x3.l.length) (hs.sel (D := [ow x3 F3]) Q2) (by rw [hx3]; exact List.length_pos_iff.2 (splitC_ne _ _)) (Nat.le_refl _)
        obtain ⟨G91, hs⟩ := Sat.cutow (lo := 1) (hi := x10.l.length) (hs.sel (D := [ow x10 F10]) Q2) (by rw [hx10]; exact List.length_pos_iff.2 (splitC_ne _ _)) (Nat.le_refl _)
        obtain ⟨G92, hs⟩ := Sat.cutow (lo := 1) (hi := x11.l.length) (hs.sel (D := [ow x11 F11]) Q2) (by rw [hx11]; exact List.length_pos_iff.2 (splitC_ne _ _)) (Nat.le_refl _)
        refine ⟨(⟨true, (x3.cut 1 x3.l.length), (x10.cut 1 x10.l.length), (x11.cut 1 x11.l.length), (((x2.l.getD 3 []).drop 6).take ((x2.l.getD 3 []).length - 6))⟩ : PPolicy), by rw [hb9]; rfl, hpl9.trans (policyOf_good h1 hb9).symm, ?_⟩
        exact (PPolicy.join _ (hs.only (D := [ow (x3.cut 1 x3.l.length) G90, ow (x10.cut 1 x10.l.length) G91, ow (x11.cut 1 x11.l.length) G92]) Q2) trivial (by show WfS _; unfold WfS; first | (simp only [List.length_take, List.length_drop]; omega) | simp)).fresh List.mem_cons_self
      ·
       replace h4 := of_decide_eq_false h4
       refine WC.skipn ?_
       refine WC.seq' ?_
       refine WC.seq ?_
       refine WL.p Q0 (Yl.loadAB agg26 Q0 hs Q1 Q0 Q0) ?_
       have hpl9 : PPolicy.lg (⟨true, (x3.cut 1 x3.l.length), (x10.cut 1 x10.l.length), (x11.cut 1 x11.l.length), ([] : Str)⟩ : PPolicy) = polS s := by
        have e2 : x2.l = splitC 59 s := hx2
        have g0 : x3.l = splitC 32 ((splitC 59 s).getD 0 []) := by rw [← e2]; exact hx3
        have g1 : x10.l = splitC 32 ((splitC 59 s).getD 1 []) := by rw [← e2]; exact hx10
        have g2 : x11.l = splitC 32 ((splitC 59 s).getD 2 []) := by rw [← e2]; exact hx11
        have c0 : (x3.cut 1 x3.l.length).l = (splitC 32 ((splitC 59 s).getD 0 [])).tail := by rw [Sl.cut_full, g0, List.drop_one]
        have c1 : (x10.cut 1 x10.l.length).l = (splitC 32 ((splitC 59 s).getD 1 [])).tail := by rw [Sl.cut_full, g1, List.drop_one]
        have c2 : (x11.cut 1 x11.l.length).l = (splitC 32 ((splitC 59 s).getD 2 [])).tail := by rw [Sl.cut_full, g2, List.drop_one]
        simp only [PPolicy.lg, polS, polOf, c0, c1, c2, TPolicy.mk.injEq, true_and]
        rw [← e2]
        first
         | (rw [if_neg (show ¬ 3 < x2.l.length from fun h => by omega)]; done)
         | (rw [if_pos (show 3 < x2.l.length from Int.ofNat_lt.1 Q7)]; done)
         | (rw [if_pos (show 3 < x2.l.length from Int.ofNat_lt.1 Q7)]
            simp only [nonceS, nonceI]
            first
              | (rfl; done)
              | (rw [if_neg Q7]; done)
              | (rw [if_pos Q7, List.take_of_length_le (by simp)]; done)
              | (rw [if_pos Q7]; done))
       refine WL.callp hs Q0 (Yc.func Q0 fn62) (c_spec_FormatPolicy (⟨true, (x3.cut 1 x3.l.length), (x10.cut 1 x10.l.length), (x11.cut 1 x11.l.length), ([] : Str)⟩ : PPolicy) _ ⟨trivial, (Sl.Ok.cut (hs.okow (x := x3) (F := F3) Q1) (by rw [hx3]; exact List.length_pos_iff.2 (splitC_ne _ _)) (by exact Nat.le_refl _)), (Sl.Ok.cut (hs.okow (x := x10) (F := F10) Q1) (by rw [hx10]; exact List.length_pos_iff.2 (splitC_ne _ _)) (by exact Nat.le_refl _)), (Sl.Ok.cut (hs.okow (x := x11) (F := F11) Q1) (by rw [hx11]; exact List.length_pos_iff.2 (splitC_ne _ _)) (by exact Nat.le_refl _)), (show WfS [] from Nat.zero_le _)⟩ (by rw [hpl9]; have := polS_size (s := s) (by rw [← show x2.l = splitC 59 s from hx2]; omega); omega)) ?_
       clear hs; intro w hs
       refine Qm ?_
       refine WL.p Q0 (Yl.nes Q0 Q0) ?_
       refine WL.next ?_
       refine WC.condS Q0 (fun h5 => ?_) (fun h5 => ?_)
       ·
        replace h5 := not_eq_true h5
        replace h5 := of_decide_eq_false h5
        refine WC.seq ?_
        refine WL.p Q0 (Yl.build bt26 Q0 Q4) ?_
        refine WL.s (Yr.storeB hs Q0 Q0 Q0 Q5 Q3 Q0 (by exact szf26)) ?_
        clear hs; rintro _ w hs
        refine Qa ?_
        refine WL.next ?_
        refine WC.ret ?_
        refine At.thenret ?_
        refine fin2c rfl agg26 Q0 Q0 hs Q1 Q0 ?_
        refine Ret.mk hs ?_
        rw [hpl9] at h5
        have hb9 : policyIs s = false := policyIs_bad h1 h5
        exact ⟨⟨false, ⟨[], none, 0⟩, ⟨[], none, 0⟩, ⟨[], none, 0⟩, []⟩, by rw [hb9]; rfl, (policyOf_no (.inr hb9)).symm, ⟨⟨[], PPolicy.zown _, .nil, fun b h => by cases h⟩⟩⟩
       ·
        replace h5 := not_eq_false h5
        replace h5 := of_decide_eq_true h5
        refine WC.skipn ?_
        refine WC.seq ?_
        refine WL.p Q0 (Yl.loadAB agg26 Q0 hs Q1 Q0 Q0) ?_
        refine WL.s (Yr.storeB hs Q0 Q0 Q0 Q5 Q3 Q0 (by exact szf26)) ?_
        clear hs; rintro _ w hs
        refine Qa ?_
        refine WL.next ?_
        refine WC.ret ?_
        refine fin2c rfl agg26 Q0 Q0 hs Q1 Q0 ?_
        refine Ret.mk hs ?_
        rw [hpl9] at h5
        have hq9 : x2.l = splitC 59 s := hx2
        have h49 : 3 ≤ (splitC 59 s).length := by rw [← hq9]; omega
        have hb9 : policyIs s = true := policyIs_good h5 h49
        obtain ⟨G90, hs⟩ := Sat.cutow (lo := 1) (hi := x3.l.length) (hs.sel (D := [ow x3 F3]) Q2) (by rw [hx3]; exact List.length_pos_iff.2 (splitC_ne _ _)) (Nat.le_refl _)
        obtain ⟨G91, hs⟩ := Sat.cutow (lo := 1) (hi := x10.l.length) (hs.sel (D := [ow x10 F10]) Q2) (by rw [hx10]; exact List.length_pos_iff.2 (splitC_ne _ _)) (Nat.le_refl _)
        obtain ⟨G92, hs⟩ := Sat.cutow (lo := 1) (hi := x11.l.length) (hs.sel (D := [ow x11 F11]) Q2) (by rw [hx11]; exact List.length_pos_iff.2 (splitC_ne _ _)) (Nat.le_refl _)
        refine ⟨(⟨true, (x3.cut 1 x3.l.length), (x10.cut 1 x10.l.length), (x11.cut 1 x11.l.length), ([] : Str)⟩ : PPolicy), by rw [hb9]; rfl, hpl9.trans (policyOf_good h1 hb9).symm, ?_⟩
        exact (PPolicy.join _ (hs.only (D := [ow (x3.cut 1 x3.l.length) G90, ow (x10.cut 1 x10.l.length) G91, ow (x11.cut 1 x11.l.length) G92]) Q2) trivial (by show WfS _; unfold WfS; first | (simp only [List.length_take, List.length_drop]; omega) | simp)).fresh List.mem_cons_self
     ·
      replace h3 := of_decide_eq_false h3
      refine WL.skip (d := 34) Q0 Q0 Q0 Q0 ?_
      refine WL.skip (d := 34) Q0 Q0 Q0 Q0 ?_
      refine WL.skip (d := 34) Q0 Q0 Q0 Q0 ?_
      refine WL.skip (d := 34) Q0 Q0 Q0 Q0 ?_
      refine WL.skip (d := 34) Q0 Q0 Q0 Q0 ?_
      refine WL.p Q0 (Yl.pickF Q0 Q0) ?_
      refine WL.next ?_
      refine WC.condF Q0 ?_
      refine WC.skipn ?_
      refine WC.seq' ?_
      refine WC.seq ?_
      refine WL.p Q0 (Yl.loadAB agg26 Q0 hs Q1 Q0 Q0) ?_
      have hpl9 : PPolicy.lg (⟨true, (x3.cut 1 x3.l.length), (x10.cut 1 x10.l.length), (x11.cut 1 x11.l.length), ([] : Str)⟩ : PPolicy) = polS s := by
       have e2 : x2.l = splitC 59 s := hx2
       have g0 : x3.l = splitC 32 ((splitC 59 s).getD 0 []) := by rw [← e2]; exact hx3
       have g1 : x10.l = splitC 32 ((splitC 59 s).getD 1 []) := by rw [← e2]; exact hx10
       have g2 : x11.l = splitC 32 ((splitC 59 s).getD 2 []) := by rw [← e2]; exact hx11
       have c0 : (x3.cut 1 x3.l.length).l = (splitC 32 ((splitC 59 s).getD 0 [])).tail := by rw [Sl.cut_full, g0, List.drop_one]
       have c1 : (x10.cut 1 x10.l.length).l = (splitC 32 ((splitC 59 s).getD 1 [])).tail := by rw [Sl.cut_full, g1, List.drop_one]
       have c2 : (x11.cut 1 x11.l.length).l = (splitC 32 ((splitC 59 s).getD 2 [])).tail := by rw [Sl.cut_full, g2, List.drop_one]
       simp only [PPolicy.lg, polS, polOf, c0, c1, c2, TPolicy.mk.injEq, true_and]
       rw [← e2]
       first
        | (rw [if_neg (show ¬ 3 < x2.l.length from fun h => by omega)]; done)
        | (rw [if_pos (show 3 < x2.l.length from Int.ofNat_lt.1 Q7)]; done)
        | (rw [if_pos (show 3 < x2.l.length from Int.ofNat_lt.1 Q7)]
           simp only [nonceS, nonceI]
           first
             | (rfl; done)
             | (rw [if_neg Q7]; done)
             | (rw [if_pos Q7, List.take_of_length_le (by simp)]; done)
             | (rw [if_pos Q7]; done))
      refine WL.callp hs Q0 (Yc.func Q0 fn62) (c_spec_FormatPolicy (⟨true, (x3.cut 1 x3.l.length), (x10.cut 1 x10.l.length), (x11.cut 1 x11.l.length), ([] : Str)⟩ : PPolicy) _ ⟨trivial, (Sl.Ok.cut (hs.okow (x := x3) (F := F3) Q1) (by rw [hx3]; exact List.length_pos_iff.2 (splitC_ne _ _)) (by exact Nat.le_refl _)), (Sl.Ok.cut (hs.okow (x := x10) (F := F10) Q1) (by rw [hx10]; exact List.length_pos_iff.2 (splitC_ne _ _)) (by exact Nat.le_refl _)), (Sl.Ok.cut (hs.okow (x := x11) (F := F11) Q1) (by rw [hx11]; exact List.length_pos_iff.2 (splitC_ne _ _)) (by exact Nat.le_refl _)), (show WfS [] from Nat.zero_le _)⟩ (by rw [hpl9]; have := polS_size (s := s) (by rw [← show x2.l = splitC 59 s from hx2]; omega); omega)) ?_
      clear hs; intro w hs
      refine Qm ?_
      refine WL.p Q0 (Yl.nes Q0 Q0) ?_
      refine WL.next ?_
      refine WC.condS Q0 (fun h4 => ?_) (fun h4 => ?_)
      ·
       replace h4 := not_eq_true h4
       replace h4 := of_decide_eq_false h4
       refine WC.seq ?_
       refine WL.p Q0 (Yl.build bt26 Q0 Q4) ?_
       refine WL.s (Yr.storeB hs Q0 Q0 Q0 Q5 Q3 Q0 (by exact szf26)) ?_
       clear hs; rintro _ w hs
       refine Qa ?_
       refine WL.next ?_
       refine WC.ret ?_
       refine At.thenret ?_
       refine fin2c rfl agg26 Q0 Q0 hs Q1 Q0 ?_
       refine Ret.mk hs ?_
       rw [hpl9] at h4
       have hb9 : policyIs s = false := policyIs_bad h1 h4
       exact ⟨⟨false, ⟨[], none, 0⟩, ⟨[], none, 0⟩, ⟨[], none, 0⟩, []⟩, by rw [hb9]; rfl, (policyOf_no (.inr hb9)).symm, ⟨⟨[], PPolicy.zown _, .nil, fun b h => by cases h⟩⟩⟩
      ·
       replace h4 := not_eq_false h4
       replace h4 := of_decide_eq_true h4
       refine WC.skipn ?_
       refine WC.seq ?_
       refine WL.p Q0 (Yl.loadAB agg26 Q0 hs Q1 Q0 Q0) ?_
       refine WL.s (Yr.storeB hs Q0 Q0 Q0 Q5 Q3 Q0 (by exact szf26)) ?_
       clear hs; rintro _ w hs
       refine Qa ?_
       refine WL.next ?_
       refine WC.ret ?_
       refine fin2c rfl agg26 Q0 Q0 hs Q1 Q0 ?_
       refine Ret.mk hs ?_
       rw [hpl9] at h4
       have hq9 : x2.l = splitC 59 s := hx2
       have h49 : 3 ≤ (splitC 59 s).length := by rw [← hq9]; omega
       have hb9 : policyIs s = true := policyIs_good h4 h49
       obtain ⟨G90, hs⟩ := Sat.cutow (lo := 1) (hi := x3.l.length) (hs.sel (D := [ow x3 F3]) Q2) (by rw [hx3]; exact List.length_pos_iff.2 (splitC_ne _ _)) (Nat.le_refl _)
       obtain ⟨G91, hs⟩ := Sat.cutow (lo := 1) (hi := x10.l.length) (hs.sel (D := [ow x10 F10]) Q2) (by rw [hx10]; exact List.length_pos_iff.2 (splitC_ne _ _)) (Nat.le_refl _)
       obtain ⟨G92, hs⟩ := Sat.cutow (lo := 1) (hi := x11.l.length) (hs.sel (D := [ow x11 F11]) Q2) (by rw [hx11]; exact List.length_pos_iff.2 (splitC_ne _ _)) (Nat.le_refl _)
       refine ⟨(⟨true, (x3.cut 1 x3.l.length), (x10.cut 1 x10.l.length), (x11.cut 1 x11.l.length), ([] : Str)⟩ : PPolicy), by rw [hb9]; rfl, hpl9.trans (policyOf_good h1 hb9).symm, ?_⟩
       exact (PPolicy.join _ (hs.only (D := [ow (x3.cut 1 x3.l.length) G90, ow (x10.cut 1 x10.l.length) G91, ow (x11.cut 1 x11.l.length) G92]) Q2) trivial (by show WfS _; unfold WfS; first | (simp only [List.length_take, List.length_drop]; omega) | simp)).fresh List.mem_cons_self
   ·
    refine WI.r (i := 16) Q0 Q0 (Yr.alloc hs zt26) (by rintro _ w ⟨b12, rfl, hb, hs⟩; exact hs.only Q2) ?_
    clear hs; rintro _ w ⟨b12, rfl, hb, hs⟩; clear hb
    refine WA.call2 (i := 3) hs (fun _ hs => hs.only Q2) Q6 Q0 Q0 (Yc.func Q0 fn64) (c_spec_l5Split _ 32 _ (by first | (have := getD_len (s := s) (i := 0); rw [← show x2.l = splitC 59 s from hx2] at this; omega) | (have := getD_len (s := s) (i := 1); rw [← show x2.l = splitC 59 s from hx2] at this; omega) | (have := getD_len (s := s) (i := 2); rw [← show x2.l = splitC 59 s from hx2] at this; omega) | (have := getD_len (s := s) (i := 3); rw [← show x2.l = splitC 59 s from hx2] at this; omega))) ?_
    have hs0 := hs; clear hs; intro v w hb hR hs; clear hs
    obtain ⟨x13, rfl, hx13, hf13⟩ := hR
    obtain ⟨F13, hs⟩ := hf13.sat hs0 hb; clear hs0 hf13
    have hle13 := Sl.Ok.le (hs.okow (x := x13) (F := F13) Q1)
    refine WA.p (i := 4) Q0 Q6 Q6 Q6 Q0 (hs.only Q2) (fun w hs => Yl.slice_sl (s := x13) (l := 1) (h := x13.l.length) slt24 Q0 hle13 (by exact ⟨_, by rfl⟩) (by exact rfl) (by rw [hx13]; exact List.length_pos_iff.2 (splitC_ne _ _)) (by exact Nat.le_refl _)) ?_
    refine WA.call2 (i := 8) hs (fun _ hs => hs.only Q2) Q6 Q0 Q0 (Yc.func Q0 fn64) (c_spec_l5Split _ 32 _ (by first | (have := getD_len (s := s) (i := 0); rw [← show x2.l = splitC 59 s from hx2] at this; omega) | (have := getD_len (s := s) (i := 1); rw [← show x2.l = splitC 59 s from hx2] at this; omega) | (have := getD_len (s := s) (i := 2); rw [← show x2.l = splitC 59 s from hx2] at this; omega) | (have := getD_len (s := s) (i := 3); rw [← show x2.l = splitC 59 s from hx2] at this; omega))) ?_
    have hs0 := hs; clear hs; intro v w hb hR hs; clear hs
    obtain ⟨x14, rfl, hx14, hf14⟩ := hR
    obtain ⟨F14, hs⟩ := hf14.sat hs0 hb; clear hs0 hf14
    have hle14 := Sl.Ok.le (hs.okow (x := x14) (F := F14) Q1)
    refine WA.p (i := 9) Q0 Q6 Q6 Q6 Q0 (hs.only Q2) (fun w hs => Yl.slice_sl (s := x14) (l := 1) (h := x14.l.length) slt24 Q0 hle14 (by exact ⟨_, by rfl⟩) (by exact rfl) (by rw [hx14]; exact List.length_pos_iff.2 (splitC_ne _ _)) (by exact Nat.le_refl _)) ?_
    refine WA.call2 (i := 13) hs (fun _ hs => hs.only Q2) Q6 Q0 Q0 (Yc.func Q0 fn64) (c_spec_l5Split _ 32 _ (by first | (have := getD_len (s := s) (i := 0); rw [← show x2.l = splitC 59 s from hx2] at this; omega) | (have := getD_len (s := s) (i := 1); rw [← show x2.l = splitC 59 s from hx2] at this; omega) | (have := getD_len (s := s) (i := 2); rw [← show x2.l = splitC 59 s from hx2] at this; omega) | (have := getD_len (s := s) (i := 3); rw [← show x2.l = splitC 59 s from hx2] at this; omega))) ?_
    have hs0 := hs; clear hs; intro v w hb hR hs; clear hs
    obtain ⟨x15, rfl, hx15, hf15⟩ := hR
    obtain ⟨F15, hs⟩ := hf15.sat hs0 hb; clear hs0 hf15
    have hle15 := Sl.Ok.le (hs.okow (x := x15) (F := F15) Q1)
    refine WA.r (i := 14) Q6 Q0 Q0 (Yl.yr (Yl.slice_sl (s := x15) (l := 1) (h := x15.l.length) slt24 Q0 hle15 (by exact ⟨_, by rfl⟩) (by exact rfl) (by rw [hx15]; exact List.length_pos_iff.2 (splitC_ne _ _)) (by exact Nat.le_refl _))) (by rintro _ _ ⟨rfl, rfl⟩; exact hs.only Q2) ?_
    rintro _ _ ⟨rfl, rfl⟩
    refine WA.p (i := 15) Q0 Q6 Q6 Q6 Q0 (hs.only Q2) (fun w hs => Yl.build bt26 Q0 Q4) ?_
    refine WA.s (i := 17) Q6 Q0 (Yr.storeB hs Q0 Q0 Q0 Q5 Q3 Q0 (by exact szf26)) (by rintro _ w hs; exact hs.only Q2) ?_
    clear hs; rintro _ w hs
    refine WA.donen Q6 ?_
    refine WC.seq' ?_
    refine WC.seq ?_
    refine Qm ?_
    refine WL.p Q0 (Yl.len_sl slu24 Q0) ?_
    refine WL.p Q0 (Yl.gtr Q0 Q0) ?_
    refine Qm ?_
    refine WL.split (d := 34) Q0 (fun h3 => ?_) (fun h3 => ?_)
    ·
     replace h3 := of_decide_eq_true h3
     refine WL.run (d := 34) Q0 Q0 ?_
     refine Qm ?_
     refine WL.run (d := 34) Q0 Q0 ?_
     refine WL.p Q0 (Yl.indexAddr (k := 3) slt24 Q0 Q0 (hs.okow (x := x2) (F := F2) Q1) Q0 ((getD_some (i := 3) (z := ([] : Str)) Q7))) ?_
     refine WL.run (d := 34) Q0 Q0 ?_
     refine WL.p Q0 (Yl.loadC0 sca9 Q0 (Sl.Ok.at_ (hs.okow (x := x2) (F := F2) Q1) ((getD_some (i := 3) (z := ([] : Str)) Q7))).2 Q0) ?_
     refine WL.run (d := 34) Q0 Q0 ?_
     refine WL.p Q0 (Yl.len_str str9 Q0) ?_
     refine WL.run (d := 34) Q0 Q0 ?_
     refine WL.p Q0 (Yl.gtr Q0 Q0) ?_
     refine WL.p Q0 (Yl.pickT Q0 Q0) ?_
     refine WL.next ?_
     refine WC.condS Q0 (fun h4 => ?_) (fun h4 => ?_)
     ·
      replace h4 := of_decide_eq_true h4
      refine WC.region ?_
      refine Qm ?_
      refine WL.p Q0 (Yl.indexAddr (k := 3) slt24 Q0 Q0 (hs.okow (x := x2) (F := F2) Q1) Q0 ((getD_some (i := 3) (z := ([] : Str)) Q7))) ?_
      refine WL.p Q0 (Yl.loadC0 sca9 Q0 (Sl.Ok.at_ (hs.okow (x := x2) (F := F2) Q1) ((getD_some (i := 3) (z := ([] : Str)) Q7))).2 Q0) ?_
      refine WL.p Q0 (Yl.slice_str (l := 6) str9 Q0 (by exact ⟨_, by rfl⟩) (by exact rfl) Q7 Q7) ?_
      refine WL.p Q0 (Yl.fieldAddr fa26_4 Q0) ?_
      refine WL.s (Yr.storeB hs Q0 Q0 Q0 Q5 Q3 Q0 (by exact szf9)) ?_
      clear hs; rintro _ w hs
      refine WL.nil ?_
      refine At.then_ ?_
      refine WC.seq' ?_
      refine WC.seq ?_
      refine WL.p Q0 (Yl.loadAB agg26 Q0 hs Q1 Q0 Q0) ?_
      have hpl9 : PPolicy.lg (⟨true, (x13.cut 1 x13.l.length), (x14.cut 1 x14.l.length), (x15.cut 1 x15.l.length), (((x2.l.getD 3 []).drop 6).take ((x2.l.getD 3 []).length - 6))⟩ : PPolicy) = polS s := by
       have e2 : x2.l = splitC 59 s := hx2
       have g0 : x13.l = splitC 32 ((splitC 59 s).getD 0 []) := by rw [← e2]; exact hx13
       have g1 : x14.l = splitC 32 ((splitC 59 s).getD 1 []) := by rw [← e2]; exact hx14
       have g2 : x15.l = splitC 32 ((splitC 59 s).getD 2 []) := by rw [← e2]; exact hx15
       have c0 : (x13.cut 1 x13.l.length).l = (splitC 32 ((splitC 59 s).getD 0 [])).tail := by rw [Sl.cut_full, g0, List.drop_one]
       have c1 : (x14.cut 1 x14.l.length).l = (splitC 32 ((splitC 59 s).getD 1 [])).tail := by rw [Sl.cut_full, g1, List.drop_one]
       have c2 : (x15.cut 1 x15.l.length).l = (splitC 32 ((splitC 59 s).getD 2 [])).tail := by rw [Sl.cut_full, g2, List.drop_one]
       simp only [PPolicy.lg, polS, polOf, c0, c1, c2, TPolicy.mk.injEq, true_and]
       rw [← e2]
       first
        | (rw [if_neg (show ¬ 3 < x2.l.length from fun h => by omega)]; done)
        | (rw [if_pos (show 3 < x2.l.length from Int.ofNat_lt.1 Q7)]; done)
        | (rw [if_pos (show 3 < x2.l.length from Int.ofNat_lt.1 Q7)]
           simp only [nonceS, nonceI]
           first
             | (rfl; done)
             | (rw [if_neg Q7]; done)
             | (rw [if_pos Q7, List.take_of_length_le (by simp)]; done)
             | (rw [if_pos Q7]; done))
      refine WL.callp hs Q0 (Yc.func Q0 fn62) (c_spec_FormatPolicy (⟨true, (x13.cut 1 x13.l.length), (x14.cut 1 x14.l.length), (x15.cut 1 x15.l.length), (((x2.l.getD 3 []).drop 6).take ((x2.l.getD 3 []).length - 6))⟩ : PPolicy) _ ⟨trivial, (Sl.Ok.cut (hs.okow (x := x13) (F := F13) Q1) (by rw [hx13]; exact List.length_pos_iff.2 (splitC_ne _ _)) (by exact Nat.le_refl _)), (Sl.Ok.cut (hs.okow (x := x14) (F := F14) Q1) (by rw [hx14]; exact List.length_pos_iff.2 (splitC_ne _ _)) (by exact Nat.le_refl _)), (Sl.Ok.cut (hs.okow (x := x15) (F := F15) Q1) (by rw [hx15]; exact List.length_pos_iff.2 (splitC_ne _ _)) (by exact Nat.le_refl _)), (by show WfS _; unfold WfS; simp only [List.length_take, List.length_drop]; omega)⟩ (by rw [hpl9]; have := polS_size (s := s) (by rw [← show x2.l = splitC 59 s from hx2]; omega); omega)) ?_
      clear hs; intro w hs
      refine Qm ?_
      refine WL.p Q0 (Yl.nes Q0 Q0) ?_
      refine WL.next ?_
      refine WC.condS Q0 (fun h5 => ?_) (fun h5 => ?_)
      ·
       replace h5 := not_eq_true h5
       replace h5 := of_decide_eq_false h5
       refine WC.seq ?_
       refine WL.p Q0 (Yl.build bt26 Q0 Q4) ?_
       refine WL.s (Yr.storeB hs Q0 Q0 Q0 Q5 Q3 Q0 (by exact szf26)) ?_
       clear hs; rintro _ w hs
       refine Qa ?_
       refine WL.next ?_
       refine WC.ret ?_
       refine At.thenret ?_
       refine fin2c rfl agg26 Q0 Q0 hs Q1 Q0 ?_
       refine Ret.mk hs ?_
       rw [hpl9] at h5
       have hb9 : policyIs s = false := policyIs_bad h1 h5
       exact ⟨⟨false, ⟨[], none, 0⟩, ⟨[], none, 0⟩, ⟨[], none, 0⟩, []⟩, by rw [hb9]; rfl, (policyOf_no (.inr hb9)).symm, ⟨⟨[], PPolicy.zown _, .nil, fun b h => by cases h⟩⟩⟩
      ·
       replace h5 := not_eq_false h5
       replace h5 := of_decide_eq_true h5
       refine WC.skipn ?_
       refine WC.seq ?_
       refine WL.p Q0 (Yl.loadAB agg26 Q0 hs Q1 Q0 Q0) ?_
       refine WL.s (Yr.storeB hs Q0 Q0 Q0 Q5 Q3 Q0 (by exact szf26)) ?_
       clear hs; rintro _ w hs
       refine Qa ?_
       refine WL.next ?_
       refine WC.ret ?_
       refine fin2c rfl agg26 Q0 Q0 hs Q1 Q0 ?_
       refine Ret.mk hs ?_
       rw [hpl9] at h5
       have hq9 : x2.l = splitC 59 s := hx2
       have h49 : 3 ≤ (splitC 59 s).length := by rw [← hq9]; omega
       have hb9 : policyIs s = true := policyIs_good h5 h49
       obtain ⟨G90, hs⟩ := Sat.cutow (lo := 1) (hi := x13.l.length) (hs.sel (D := [ow x13 F13]) Q2) (by rw [hx13]; exact List.length_pos_iff.2 (splitC_ne _ _)) (Nat.le_refl _)
       obtain ⟨G91, hs⟩ := Sat.cutow (lo := 1) (hi := x14.l.length) (hs.sel (D := [ow x14 F14]) Q2) (by rw [hx14]; exact List.length_pos_iff.2 (splitC_ne _ _)) (Nat.le_refl _)
       obtain ⟨G92, hs⟩ := Sat.cutow (lo := 1) (hi := x15.l.length) (hs.sel (D := [ow x15 F15]) Q2) (by rw [hx15]; exact List.length_pos_iff.2 (splitC_ne _ _)) (Nat.le_refl _)
       refine ⟨(⟨true, (x13.cut 1 x13.l.length), (x14.cut 1 x14.l.length), (x15.cut 1 x15.l.length), (((x2.l.getD 3 []).drop 6).take ((x2.l.getD 3 []).length - 6))⟩ : PPolicy), by rw [hb9]; rfl, hpl9.trans (policyOf_good h1 hb9).symm, ?_⟩
       exact (PPolicy.join _ (hs.only (D := [ow (x13.cut 1 x13.l.length) G90, ow (x14.cut 1 x14.l.length) G91, ow (x15.cut 1 x15.l.length) G92]) Q2) trivial (by show WfS _; unfold WfS; first | (simp only [List.length_take, List.length_drop]; omega) | simp)).fresh List.mem_cons_self
     ·
      replace h4 := of_decide_eq_false h4
      refine WC.skipn ?_
      refine WC.seq' ?_
      refine WC.seq ?_
      refine WL.p Q0 (Yl.loadAB agg26 Q0 hs Q1 Q0 Q0) ?_
      have hpl9 : PPolicy.lg (⟨true, (x13.cut 1 x13.l.length), (x14.cut 1 x14.l.length), (x15.cut 1 x15.l.length), ([] : Str)⟩ : PPolicy) = polS s := by
       have e2 : x2.l = splitC 59 s := hx2
       have g0 : x13.l = splitC 32 ((splitC 59 s).getD 0 []) := by rw [← e2]; exact hx13
       have g1 : x14.l = splitC 32 ((splitC 59 s).getD 1 []) := by rw [← e2]; exact hx14
       have g2 : x15.l = splitC 32 ((splitC 59 s).getD 2 []) := by rw [← e2]; exact hx15
       have c0 : (x13.cut 1 x13.l.length).l = (splitC 32 ((splitC 59 s).getD 0 [])).tail := by rw [Sl.cut_full, g0, List.drop_one]
       have c1 : (x14.cut 1 x14.l.length).l = (splitC 32 ((splitC 59 s).getD 1 [])).tail := by rw [Sl.cut_full, g1, List.drop_one]
       have c2 : (x15.cut 1 x15.l.length).l = (splitC 32 ((splitC 59 s).getD 2 [])).tail := by rw [Sl.cut_full, g2, List.drop_one]
       simp only [PPolicy.lg, polS, polOf, c0, c1, c2, TPolicy.mk.injEq, true_and]
       rw [← e2]
       first
        | (rw [if_neg (show ¬ 3 < x2.l.length from fun h => by omega)]; done)
        | (rw [if_pos (show 3 < x2.l.length from Int.ofNat_lt.1 Q7)]; done)
        | (rw [if_pos (show 3 < x2.l.length from Int.ofNat_lt.1 Q7)]
           simp only [nonceS, nonceI]
           first
             | (rfl; done)
             | (rw [if_neg Q7]; done)
             | (rw [if_pos Q7, List.take_of_length_le (by simp)]; done)
             | (rw [if_pos Q7]; done))
      refine WL.callp hs Q0 (Yc.func Q0 fn62) (c_spec_FormatPolicy (⟨true, (x13.cut 1 x13.l.length), (x14.cut 1 x14.l.length), (x15.cut 1 x15.l.length), ([] : Str)⟩ : PPolicy) _ ⟨trivial, (Sl.Ok.cut (hs.okow (x := x13) (F := F13) Q1) (by rw [hx13]; exact List.length_pos_iff.2 (splitC_ne _ _)) (by exact Nat.le_refl _)), (Sl.Ok.cut (hs.okow (x := x14) (F := F14) Q1) (by rw [hx14]; exact List.length_pos_iff.2 (splitC_ne _ _)) (by exact Nat.le_refl _)), (Sl.Ok.cut (hs.okow (x := x15) (F := F15) Q1) (by rw [hx15]; exact List.length_pos_iff.2 (splitC_ne _ _)) (by exact Nat.le_refl _)), (show WfS [] from Nat.zero_le _)⟩ (by rw [hpl9]; have := polS_size (s := s) (by rw [← show x2.l = splitC 59 s from hx2]; omega); omega)) ?_
      clear hs; intro w hs
      refine Qm ?_
      refine WL.p Q0 (Yl.nes Q0 Q0) ?_
      refine WL.next ?_
      refine WC.condS Q0 (fun h5 => ?_) (fun h5 => ?_)
      ·
       replace h5 := not_eq_true h5
       replace h5 := of_decide_eq_false h5
       refine WC.seq ?_
       refine WL.p Q0 (Yl.build bt26 Q0 Q4) ?_
       refine WL.s (Yr.storeB hs Q0 Q0 Q0 Q5 Q3 Q0 (by exact szf26)) ?_
       clear hs; rintro _ w hs
       refine Qa ?_
       refine WL.next ?_
       refine WC.ret ?_
       refine At.thenret ?_
       refine fin2c rfl agg26 Q0 Q0 hs Q1 Q0 ?_
       refine Ret.mk hs ?_
       rw [hpl9] at h5
       have hb9 : policyIs s = false := policyIs_bad h1 h5
       exact ⟨⟨false, ⟨[], none, 0⟩, ⟨[], none, 0⟩, ⟨[], none, 0⟩, []⟩, by rw [hb9]; rfl, (policyOf_no (.inr hb9)).symm, ⟨⟨[], PPolicy.zown _, .nil, fun b h => by cases h⟩⟩⟩
      ·
       replace h5 := not_eq_false h5
       replace h5 := of_decide_eq_true h5
       refine WC.skipn ?_
       refine WC.seq ?_
       refine WL.p Q0 (Yl.loadAB agg26 Q0 hs Q1 Q0 Q0) ?_
       refine WL.s (Yr.storeB hs Q0 Q0 Q0 Q5 Q3 Q0 (by exact szf26)) ?_
       clear hs; rintro _ w hs
       refine Qa ?_
       refine WL.next ?_
       refine WC.ret ?_
       refine fin2c rfl agg26 Q0 Q0 hs Q1 Q0 ?_
       refine Ret.mk hs ?_
       rw [hpl9] at h5
       have hq9 : x2.l = splitC 59 s := hx2
       have h49 : 3 ≤ (splitC 59 s).length := by rw [← hq9]; omega
       have hb9 : policyIs s = true := policyIs_good h5 h49
       obtain ⟨G90, hs⟩ := Sat.cutow (lo := 1) (hi := x13.l.length) (hs.sel (D := [ow x13 F13]) Q2) (by rw [hx13]; exact List.length_pos_iff.2 (splitC_ne _ _)) (Nat.le_refl _)
       obtain ⟨G91, hs⟩ := Sat.cutow (lo := 1) (hi := x14.l.length) (hs.sel (D := [ow x14 F14]) Q2) (by rw [hx14]; exact List.length_pos_iff.2 (splitC_ne _ _)) (Nat.le_refl _)
       obtain ⟨G92, hs⟩ := Sat.cutow (lo := 1) (hi := x15.l.length) (hs.sel (D := [ow x15 F15]) Q2) (by rw [hx15]; exact List.length_pos_iff.2 (splitC_ne _ _)) (Nat.le_refl _)
       refine ⟨(⟨true, (x13.cut 1 x13.l.length), (x14.cut 1 x14.l.length), (x15.cut 1 x15.l.length), ([] : Str)⟩ : PPolicy), by rw [hb9]; rfl, hpl9.trans (policyOf_good h1 hb9).symm, ?_⟩
       exact (PPolicy.join _ (hs.only (D := [ow (x13.cut 1 x13.l.length) G90, ow (x14.cut 1 x14.l.length) G91, ow (x15.cut 1 x15.l.length) G92]) Q2) trivial (by show WfS _; unfold WfS; first | (simp only [List.length_take, List.length_drop]; omega) | simp)).fresh List.mem_cons_self
    ·
     replace h3 := of_decide_eq_false h3
     refine WL.skip (d := 34) Q0 Q0 Q0 Q0 ?_
     refine WL.skip (d := 34) Q0 Q0 Q0 Q0 ?_
     refine WL.skip (d := 34) Q0 Q0 Q0 Q0 ?_
     refine WL.skip (d := 34) Q0 Q0 Q0 Q0 ?_
     refine WL.skip (d := 34) Q0 Q0 Q0 Q0 ?_
     refine WL.p Q0 (Yl.pickF Q0 Q0) ?_
     refine WL.next ?_
     refine WC.condF Q0 ?_
     refine WC.skipn ?_
     refine WC.seq' ?_
     refine WC.seq ?_
     refine WL.p Q0 (Yl.loadAB agg26 Q0 hs Q1 Q0 Q0) ?_
     have hpl9 : PPolicy.lg (⟨true, (x13.cut 1 x13.l.length), (x14.cut 1 x14.l.length), (x15.cut 1 x15.l.length), ([] : Str)⟩ : PPolicy) = polS s := by
      have e2 : x2.l = splitC 59 s := hx2
      have g0 : x13.l = splitC 32 ((splitC 59 s).getD 0 []) := by rw [← e2]; exact hx13
      have g1 : x14.l = splitC 32 ((splitC 59 s).getD 1 []) := by rw [← e2]; exact hx14
      have g2 : x15.l = splitC 32 ((splitC 59 s).getD 2 []) := by rw [← e2]; exact hx15
      have c0 : (x13.cut 1 x13.l.length).l = (splitC 32 ((splitC 59 s).getD 0 [])).tail := by rw [Sl.cut_full, g0, List.drop_one]
      have c1 : (x14.cut 1 x14.l.length).l = (splitC 32 ((splitC 59 s).getD 1 [])).tail := by rw [Sl.cut_full, g1, List.drop_one]
      have c2 : (x15.cut 1 x15.l.length).l = (splitC 32 ((splitC 59 s).getD 2 [])).tail := by rw [Sl.cut_full, g2, List.drop_one]
      simp only [PPolicy.lg, polS, polOf, c0, c1, c2, TPolicy.mk.injEq, true_and]
      rw [← e2]
      first
       | (rw [if_neg (show ¬ 3 < x2.l.length from fun h => by omega)]; done)
       | (rw [if_pos (show 3 < x2.l.length from Int.ofNat_lt.1 Q7)]; done)
       | (rw [if_pos (show 3 < x2.l.length from Int.ofNat_lt.1 Q7)]
          simp only [nonceS, nonceI]
          first
            | (rfl; done)
            | (rw [if_neg Q7]; done)
            | (rw [if_pos Q7, List.take_of_length_le (by simp)]; done)
            | (rw [if_pos Q7]; done))
     refine WL.callp hs Q0 (Yc.func Q0 fn62) (c_spec_FormatPolicy (⟨true, (x13.cut 1 x13.l.length), (x14.cut 1 x14.l.length), (x15.cut 1 x15.l.length), ([] : Str)⟩ : PPolicy) _ ⟨trivial, (Sl.Ok.cut (hs.okow (x := x13) (F := F13) Q1) (by rw [hx13]; exact List.length_pos_iff.2 (splitC_ne _ _)) (by exact Nat.le_refl _)), (Sl.Ok.cut (hs.okow (x := x14) (F := F14) Q1) (by rw [hx14]; exact List.length_pos_iff.2 (splitC_ne _ _)) (by exact Nat.le_refl _)), (Sl.Ok.cut (hs.okow (x := x15) (F := F15) Q1) (by rw [hx15]; exact List.length_pos_iff.2 (splitC_ne _ _)) (by exact Nat.le_refl _)), (show WfS [] from Nat.zero_le _)⟩ (by rw [hpl9]; have := polS_size (s := s) (by rw [← show x2.l = splitC 59 s from hx2]; omega); omega)) ?_
     clear hs; intro w hs
     refine Qm ?_
     refine WL.p Q0 (Yl.nes Q0 Q0) ?_
     refine WL.next ?_
     refine WC.condS Q0 (fun h4 => ?_) (fun h4 => ?_)
     ·
      replace h4 := not_eq_true h4
      replace h4 := of_decide_eq_false h4
      refine WC.seq ?_
      refine WL.p Q0 (Yl.build bt26 Q0 Q4) ?_
      refine WL.s (Yr.storeB hs Q0 Q0 Q0 Q5 Q3 Q0 (by exact szf26)) ?_
      clear hs; rintro _ w hs
      refine Qa ?_
      refine WL.next ?_
      refine WC.ret ?_
      refine At.thenret ?_
      refine fin2c rfl agg26 Q0 Q0 hs Q1 Q0 ?_
      refine Ret.mk hs ?_
      rw [hpl9] at h4
      have hb9 : policyIs s = false := policyIs_bad h1 h4
      exact ⟨⟨false, ⟨[], none, 0⟩, ⟨[], none, 0⟩, ⟨[], none, 0⟩, []⟩, by rw [hb9]; rfl, (policyOf_no (.inr hb9)).symm, ⟨⟨[], PPolicy.zown _, .nil, fun b h => by cases h⟩⟩⟩
     ·
      replace h4 := not_eq_false h4
      replace h4 := of_decide_eq_true h4
      refine WC.skipn ?_
      refine WC.seq ?_
      refine WL.p Q0 (Yl.loadAB agg26 Q0 hs Q1 Q0 Q0) ?_
      refine WL.s (Yr.storeB hs Q0 Q0 Q0 Q5 Q3 Q0 (by exact szf26)) ?_
      clear hs; rintro _ w hs
      refine Qa ?_
      refine WL.next ?_
      refine WC.ret ?_
      refine fin2c rfl agg26 Q0 Q0 hs Q1 Q0 ?_
      refine Ret.mk hs ?_
      rw [hpl9] at h4
      have hq9 : x2.l = splitC 59 s := hx2
      have h49 : 3 ≤ (splitC 59 s).length := by rw [← hq9]; omega
      have hb9 : policyIs s = true := policyIs_good h4 h49
      obtain ⟨G90, hs⟩ := Sat.cutow (lo := 1) (hi := x13.l.length) (hs.sel (D := [ow x13 F13]) Q2) (by rw [hx13]; exact List.length_pos_iff.2 (splitC_ne _ _)) (Nat.le_refl _)
      obtain ⟨G91, hs⟩ := Sat.cutow (lo := 1) (hi := x14.l.length) (hs.sel (D := [ow x14 F14]) Q2) (by rw [hx14]; exact List.length_pos_iff.2 (splitC_ne _ _)) (Nat.le_refl _)
      obtain ⟨G92, hs⟩ := Sat.cutow (lo := 1) (hi := x15.l.length) (hs.sel (D := [ow x15 F15]) Q2) (by rw [hx15]; exact List.length_pos_iff.2 (splitC_ne _ _)) (Nat.le_refl _)
      refine ⟨(⟨true, (x13.cut 1 x13.l.length), (x14.cut 1 x14.l.length), (x15.cut 1 x15.l.length), ([] : Str)⟩ : PPolicy), by rw [hb9]; rfl, hpl9.trans (policyOf_good h1 hb9).symm, ?_⟩
      exact (PPolicy.join _ (hs.only (D := [ow (x13.cut 1 x13.l.length) G90, ow (x14.cut 1 x14.l.length) G91, ow (x15.cut 1 x15.l.length) G92]) Q2) trivial (by show WfS _; unfold WfS; first | (simp only [List.length_take, List.length_drop]; omega) | simp)).fresh List.mem_cons_self

theorem c_spec_IsResponse (x : TResponse) (w : World) (h_x : Ph.ok w x) (hb : x.policy.length ≤ 1048576) : Calls Tryd.prog 44 [.agg #[I x.status, I x.kind, S x.body, I x.age, Bo x.shares, S x.policy]].toArray w (RetP w (Bo x.isv)) := by
 refine enterN 33 Tryd.func44 rfl rfl rfl ?_
 have hs := Sat.start w
 refine WC.seq ?_
 refine WL.r Q0 (Yr.box hs Q0 Q0) ?_
 clear hs; rintro _ w ⟨b1, rfl, hb, hs⟩; clear hb
 refine Qa ?_
 refine WL.next ?_
 refine WC.seq ?_
 refine WL.p Q0 (Yl.fieldAddr fa45_5 Q0) ?_
 refine WL.p Q0 (Yl.loadB sca9 Q0 hs Q1 Q0) ?_
 refine WL.call hs Q0 (Yc.func Q0 fn15) (c_spec_ParsePolicy _ _ Q10) ?_
 have hs0 := hs; clear hs; intro v w hb hR hs; clear hs
 obtain ⟨x2, rfl, hx2, hf2⟩ := hR
 obtain ⟨F2, hs⟩ := hf2.sat hs0 hb; clear hs0 hf2
 refine Qm ?_
 refine WL.p Q0 (Yl.extract Q0 Q0) ?_
 refine WL.p Q0 (Yl.extract Q0 Q0) ?_
 refine WL.r Q0 (Yr.alloc hs zt26) ?_
 clear hs; rintro _ w ⟨b3, rfl, hb, hs⟩; clear hb
 refine WL.s (Yr.storeB hs Q0 Q0 Q0 Q5 Q3 Q0 (by exact szf26)) ?_
 clear hs; rintro _ w hs
 refine Qa ?_
 refine WL.next ?_
 refine WC.seq ?_
 refine WL.p Q0 (Yl.fieldAddr fa45_0 Q0) ?_
 refine WL.p Q0 (Yl.loadB sca3 Q0 hs Q1 Q0) ?_
 refine WL.callp hs Q0 (Yc.func Q0 fn76) (c_spec_l1In _ _ _ _) ?_
 clear hs; intro w hs
 refine Qm ?_
 refine WL.split (d := 14) Q0 (fun h1 => ?_) (fun h1 => ?_)
 ·
  replace h1 := inR_true.1 h1
  refine WL.run (d := 14) Q0 Q0 ?_
  refine WL.p Q0 (Yl.fieldAddr fa45_1 Q0) ?_
  refine WL.run (d := 14) Q0 Q0 ?_
  refine WL.p Q0 (Yl.loadB sca3 Q0 hs Q1 Q0) ?_
  refine WL.run (d := 14) Q0 Q0 ?_
  refine WL.callp hs Q0 (Yc.func Q0 fn76) (c_spec_l1In _ _ _ _) ?_
  clear hs; intro w hs
  refine WL.p Q0 (Yl.pickT Q0 Q0) ?_
  refine Qm ?_
  refine WL.split (d := 19) Q0 (fun h2 => ?_) (fun h2 => ?_)
  ·
   replace h2 := inR_true.1 h2
   refine WL.run (d := 19) Q0 Q0 ?_
   refine WL.p Q0 (Yl.fieldAddr fa45_2 Q0) ?_
   refine WL.run (d := 19) Q0 Q0 ?_
   refine WL.p Q0 (Yl.loadB sca9 Q0 hs Q1 Q0) ?_
   refine WL.run (d := 19) Q0 Q0 ?_
   refine WL.p Q0 (Yl.len_str str9 Q0) ?_
   refine WL.run (d := 19) Q0 Q0 ?_
   refine WL.p Q0 (Yl.leq Q0 Q0) ?_
   refine WL.p Q0 (Yl.pickT Q0 Q0) ?_
   refine Qm ?_
   refine WL.split (d := 25) Q0 (fun h3 => ?_) (fun h3 => ?_)
   ·
    replace h3 := of_decide_eq_true h3
    refine WL.run (d := 25) Q0 Q0 ?_
    refine WL.p Q0 (Yl.fieldAddr fa45_3 Q0) ?_
    refine WL.run (d := 25) Q0 Q0 ?_
    refine WL.p Q0 (Yl.loadB sca3 Q0 hs Q1 Q0) ?_
    refine WL.run (d := 25) Q0 Q0 ?_
    refine WL.callp hs Q0 (Yc.func Q0 fn76) (c_spec_l1In _ _ _ _) ?_
    clear hs; intro w hs
    refine WL.p Q0 (Yl.pickT Q0 Q0) ?_
    refine Qm ?_
    refine WL.split (d := 30) Q0 (fun h4 => ?_) (fun h4 => ?_)
    ·
     replace h4 := inR_true.1 h4
     refine WL.run (d := 30) Q0 Q0 ?_
     refine Qm ?_
     refine WL.p Q0 (Yl.pickT Q0 Q0) ?_
     refine Qa ?_
     refine WL.next ?_
     refine WC.ret ?_
     refine fin1' rfl Q0 ?_
     refine RetP.mk hs ?_
     clear hs hb h_x
     try simp only [← inR_true] at *
     try simp only [← inR_false] at *
     simp_all [TResponse.isv]
     try (intro hh; omega)
    ·
     replace h4 := inR_false.1 h4
     refine WL.skip (d := 30) Q0 Q0 Q0 Q0 ?_
     refine WL.p Q0 (Yl.pickF Q0 Q0) ?_
     refine Qa ?_
     refine WL.next ?_
     refine WC.ret ?_
     refine fin1' rfl Q0 ?_
     refine RetP.mk hs ?_
     clear hs hb h_x
     try simp only [← inR_true] at *
     try simp only [← inR_false] at *
     simp_all [TResponse.isv]
     try (intro hh; omega)
   ·
    replace h3 := of_decide_eq_false h3
    refine WL.skip (d := 25) Q0 Q0 Q0 Q0 ?_
    refine WL.skip (d := 25) Q0 Q0 Q0 Q0 ?_
    refine WL.skip (d := 25) Q0 Q0 Q0 Q0 ?_
    refine WL.p Q0 (Yl.pickF Q0 Q0) ?_
    refine Qm ?_
    refine WL.skip (d := 30) Q0 Q0 Q0 Q0 ?_
    refine WL.p Q0 (Yl.pickF Q0 Q0) ?_
    refine Qa ?_
    refine WL.next ?_
    refine WC.ret ?_
    refine fin1' rfl Q0 ?_
    refine RetP.mk hs ?_
    clear hs hb h_x
    try simp only [← inR_true] at *
    try simp only [← inR_false] at *
    simp_all [TResponse.isv]
    try (intro hh; omega)
  ·
   replace h2 := inR_false.1 h2
   refine WL.skip (d := 19) Q0 Q0 Q0 Q0 ?_
   refine WL.skip (d := 19) Q0 Q0 Q0 Q0 ?_
   refine WL.skip (d := 19) Q0 Q0 Q0 Q0 ?_
   refine WL.skip (d := 19) Q0 Q0 Q0 Q0 ?_
   refine WL.p Q0 (Yl.pickF Q0 Q0) ?_
   refine Qm ?_
   refine WL.skip (d := 25) Q0 Q0 Q0 Q0 ?_
   refine WL.skip (d := 25) Q0 Q0 Q0 Q0 ?_
   refine WL.skip (d := 25) Q0 Q0 Q0 Q0 ?_
   refine WL.p Q0 (Yl.pickF Q0 Q0) ?_
   refine Qm ?_
   refine WL.skip (d := 30) Q0 Q0 Q0 Q0 ?_
   refine WL.p Q0 (Yl.pickF Q0 Q0) ?_
   refine Qa ?_
   refine WL.next ?_
   refine WC.ret ?_
   refine fin1' rfl Q0 ?_
   refine RetP.mk hs ?_
   clear hs hb h_x
   try simp only [← inR_true] at *
   try simp only [← inR_false] at *
   simp_all [TResponse.isv]
   try (intro hh; omega)
 ·
  replace h1 := inR_false.1 h1
  refine WL.skip (d := 14) Q0 Q0 Q0 Q0 ?_
  refine WL.skip (d := 14) Q0 Q0 Q0 Q0 ?_
  refine WL.skip (d := 14) Q0 Q0 Q0 Q0 ?_
  refine WL.p Q0 (Yl.pickF Q0 Q0) ?_
  refine Qm ?_
  refine WL.skip (d := 19) Q0 Q0 Q0 Q0 ?_
  refine WL.skip (d := 19) Q0 Q0 Q0 Q0 ?_
  refine WL.skip (d := 19) Q0 Q0 Q0 Q0 ?_
  refine WL.skip (d := 19) Q0 Q0 Q0 Q0 ?_
  refine WL.p Q0 (Yl.pickF Q0 Q0) ?_
  refine Qm ?_
  refine WL.skip (d := 25) Q0 Q0 Q0 Q0 ?_
  refine WL.skip (d := 25) Q0 Q0 Q0 Q0 ?_
  refine WL.skip (d := 25) Q0 Q0 Q0 Q0 ?_
  refine WL.p Q0 (Yl.pickF Q0 Q0) ?_
  refine Qm ?_
  refine WL.skip (d := 30) Q0 Q0 Q0 Q0 ?_
  refine WL.p Q0 (Yl.pickF Q0 Q0) ?_
  refine Qa ?_
  refine WL.next ?_
  refine WC.ret ?_
  refine fin1' rfl Q0 ?_
  refine RetP.mk hs ?_
  clear hs hb h_x
  try simp only [← inR_true] at *
  try simp only [← inR_false] at *
  simp_all [TResponse.isv]
  try (intro hh; omega)

theorem c_spec_l13Copy (c : PCache) (w : World) (h_c : Ph.ok w c) (hb : c.lg.size ≤ 1048576) : Calls Tryd.prog 75 [.agg #[Sl.v c.entries]].toArray w (Ret w (fun v w' => ∃ x : PCache, v = .agg (Ph.enc x).toArray ∧ x.lg = c.lg ∧ Fresh w x w')) := by
 have hw := h_c.entries.lt
 refine enterN 8 Tryd.func75 rfl rfl rfl ?_
 have hs := Sat.start w
 refine WC.seq ?_
 refine WL.r Q0 (Yr.box hs Q0 Q0) ?_
 clear hs; rintro _ w ⟨b1, rfl, hb, hs⟩; clear hb
 refine WL.r Q0 (Yr.alloc hs zt41) ?_
 clear hs; rintro _ w ⟨b2, rfl, hb, hs⟩; clear hb
 refine WL.next ?_
 refine WC.seq ?_
 refine WL.r Q0 (Yr.buildSlice hs sll39 Q0 Q0 Q0 Q4 Q0) ?_
 clear hs; rintro _ w ⟨b3, rfl, hb, hs⟩; clear hb
 refine WL.p Q0 (Yl.fieldAddr fa41_0 Q0) ?_
 refine WL.p Q0 (Yl.loadB sca39 Q0 hs Q1 Q0) ?_
 replace hs := (Sat.boxow (l := ([] : List TEntry)) (hs.sel (D := [box b3 _ _]) Q2) rfl rfl (by simp [maxLen]) (ownL_mk_flat (by simp)))
 refine WL.r Q0 (Yr.appendS (s := (⟨[], some ⟨b3, 0, none⟩, _⟩ : Sl TEntry)) (F := [b3]) (r := c.entries) hs elt39 Q2 Q0 Q0 (Ph.old h_c.entries hs) (by simp; unfold maxLen; omega) (by simp only [TCache.size, lsz] at hb; simp; omega)) ?_
 clear hs; rintro _ w ⟨s4, F4, rfl, hl4, hs⟩
 refine WL.p Q0 (Yl.build bt41 Q0 Q4) ?_
 refine WL.s (Yr.storeB hs Q0 Q0 Q0 Q5 Q3 Q0 (by exact szf41)) ?_
 clear hs; rintro _ w hs
 refine WL.next ?_
 refine WC.ret ?_
 refine fin1c rfl agg41 Q0 hs Q1 Q0 ?_
 refine Ret.mk hs ?_
 refine ⟨⟨s4⟩, rfl, ?_, ?_⟩
 · simp_all
 · exact (PCache.join _ (hs.only (D := [ow s4 F4]) Q2) ).fresh List.mem_cons_self

theorem c_spec_l13Find (c : PCache) (top : Str) (a : TAddr) (w : World) (h_c : Ph.ok w c)  : Calls Tryd.prog 78 [.agg #[Sl.v c.entries], S top, .agg #[S a.host, S a.path]].toArray w (RetP w (I (idxF (fun e : TEntry => decide (e.top = top) && decide (e.to = a)) c.entries.l 0))) := by
 have hw := h_c.entries.lt
 refine enterN 34 Tryd.func78 rfl rfl rfl ?_
 have hs := Sat.start w
 refine WC.seq ?_
 refine WL.r Q0 (Yr.box hs Q0 Q0) ?_
 clear hs; rintro _ w ⟨b1, rfl, hb, hs⟩; clear hb
 refine WL.r Q0 (Yr.box hs Q0 Q0) ?_
 clear hs; rintro _ w ⟨b2, rfl, hb, hs⟩; clear hb
 refine Qa ?_
 refine WL.next ?_
 refine WC.seq' ?_
 refine WC.seq ?_
 refine Qa ?_
 refine WL.next ?_
 refine WC.block ?_
 refine WC.loopC (ι := Nat) (fun k => c.entries.l.length - k) (fun k => [(7, I (k : Int))]) (fun _ => []) (fun k => idxF (fun e : TEntry => decide (e.top = top) && decide (e.to = a)) c.entries.l 0 = idxF (fun e : TEntry => decide (e.top = top) && decide (e.to = a)) (c.entries.l.drop k) k) [(0, _), (1, _), (2, _), (3, _), (5, _)] 0 (hs) ⟨by rfl, by rfl, by rfl, by rfl, by rfl, trivial⟩ ⟨by rfl, trivial⟩ ?_ ?_
 ·
  simp
 clear hs; rintro k w hJ hs
 simp only [List.nil_append] at hs
 refine WC.seq' ?_
 refine WC.seq ?_
 refine Qm ?_
 refine WL.p Q0 (Yl.fieldAddr fa41_0 Q0) ?_
 refine WL.p Q0 (Yl.loadB sca39 Q0 hs Q1 Q0) ?_
 refine WL.p Q0 (Yl.len_sl slu39 Q0) ?_
 refine WL.p Q0 (Yl.lss Q0 Q0) ?_
 refine WL.next ?_
 refine WC.condS Q0 (fun h1 => ?_) (fun h1 => ?_)
 ·
  replace h1 := of_decide_eq_true h1
  obtain ⟨d, hd⟩ := exists_get (l := c.entries.l) (k := k) Q7
  rw [drop_cons hd] at hJ
  refine WC.skipn ?_
  refine WC.seq' ?_
  refine WC.block ?_
  refine WC.quietn mixed Q6 hs ?_
  refine WQ.p Q0 (fun w hs => Yl.fieldAddr fa41_0 Q0) ?_
  refine WQ.p Q0 (fun w hs => Yl.loadB sca39 Q0 hs Q1 Q0) ?_
  refine WQ.p Q0 (fun w hs => Yl.move Q0) ?_
  refine WQ.p Q0 (fun w hs => Yl.indexAddr slt39 Q0 Q0 (Ph.old h_c.entries hs) Q0 (hd)) ?_
  refine WQ.p Q0 (fun w hs => Yl.fieldAddr fa99_0 Q0) ?_
  refine WQ.p Q0 (fun w hs => Yl.loadC sca9 Q0 (Sl.Ok.at_ (Ph.old h_c.entries hs) (by assumption)).2 Q0) ?_
  refine WQ.p Q0 (fun w hs => Yl.move Q0) ?_
  refine WQ.p Q0 (fun w hs => Yl.eqs Q0 Q0) ?_
  refine WQ.p Q0 (fun w hs => Yl.move Q0) ?_
  refine WQ.split (d := 23) Q0 (fun h2 => ?_) (fun h2 => ?_)
  ·
   replace h2 := of_decide_eq_true h2
   refine WQ.run (d := 23) Q0 Q0 ?_
   refine WQ.p Q0 (fun w hs => Yl.fieldAddr fa41_0 Q0) ?_
   refine WQ.run (d := 23) Q0 Q0 ?_
   refine WQ.p Q0 (fun w hs => Yl.loadB sca39 Q0 hs Q1 Q0) ?_
   refine WQ.run (d := 23) Q0 Q0 ?_
   refine WQ.p Q0 (fun w hs => Yl.move Q0) ?_
   refine WQ.run (d := 23) Q0 Q0 ?_
   refine WQ.p Q0 (fun w hs => Yl.indexAddr slt39 Q0 Q0 (Ph.old h_c.entries hs) Q0 (hd)) ?_
   refine WQ.run (d := 23) Q0 Q0 ?_
   refine WQ.p Q0 (fun w hs => Yl.fieldAddr fa99_1 Q0) ?_
   refine WQ.run (d := 23) Q0 Q0 ?_
   refine WQ.p Q0 (fun w hs => Yl.loadAC agg43 Q0 (Sl.Ok.at_ (Ph.old h_c.entries hs) (by assumption)).2 Q0 Q0) ?_
   refine WQ.run (d := 23) Q0 Q0 ?_
   refine WQ.p Q0 (fun w hs => Yl.loadAB agg43 Q0 hs Q1 Q0 Q0) ?_
   refine WQ.run (d := 23) Q0 Q0 ?_
   refine WQ.p Q0 (fun w hs => Yl.eqt eqt43 Q0 Q0) ?_
   refine WQ.p Q0 (fun w hs => Yl.pickT Q0 Q0) ?_
   refine WQ.next ?_
   clear hs; intro w hs
   refine WC.condS Q0 (fun h3 => ?_) (fun h3 => ?_)
   ·
    replace h3 := of_decide_eq_true h3
    refine WC.seq ?_
    refine Qm ?_
    refine Qa ?_
    refine WL.next ?_
    refine WC.ret ?_
    refine At.blockret ?_
    refine At.thenret ?_
    refine At.thenret ?_
    refine At.blockret ?_
    refine At.thenret ?_
    refine fin1' rfl Q0 ?_
    refine RetP.mk hs ?_
    rw [hJ]; simp_all [idxF]
   ·
    replace h3 := of_decide_eq_false h3
    refine WC.skip ?_
    refine At.blocknormal ?_
    refine At.then_ ?_
    refine WC.region ?_
    refine Qm ?_
    refine WL.p Q0 (Yl.add Q0 Q0 Q7) ?_
    refine Qa ?_
    refine WL.nil ?_
    refine At.roundC (k + 1) (hs.only Q2) ⟨by rfl, by rfl, by rfl, by rfl, by rfl, trivial⟩ ⟨by rfl, trivial⟩ ?_ ?_
    ·
     omega
    ·
     rw [hJ]; simp_all [idxF]
  ·
   replace h2 := of_decide_eq_false h2
   refine WQ.skip (d := 23) Q0 Q0 Q0 Q0 ?_
   refine WQ.skip (d := 23) Q0 Q0 Q0 Q0 ?_
   refine WQ.skip (d := 23) Q0 Q0 Q0 Q0 ?_
   refine WQ.skip (d := 23) Q0 Q0 Q0 Q0 ?_
   refine WQ.skip (d := 23) Q0 Q0 Q0 Q0 ?_
   refine WQ.skip (d := 23) Q0 Q0 Q0 Q0 ?_
   refine WQ.skip (d := 23) Q0 Q0 Q0 Q0 ?_
   refine WQ.skip (d := 23) Q0 Q0 Q0 Q0 ?_
   refine WQ.p Q0 (fun w hs => Yl.pickF Q0 Q0) ?_
   refine WQ.next ?_
   clear hs; intro w hs
   refine WC.condF Q0 ?_
   refine WC.skip ?_
   refine At.blocknormal ?_
   refine At.then_ ?_
   refine WC.region ?_
   refine Qm ?_
   refine WL.p Q0 (Yl.add Q0 Q0 Q7) ?_
   refine Qa ?_
   refine WL.nil ?_
   refine At.roundC (k + 1) (hs.only Q2) ⟨by rfl, by rfl, by rfl, by rfl, by rfl, trivial⟩ ⟨by rfl, trivial⟩ ?_ ?_
   ·
    omega
   ·
    rw [hJ]; simp_all [idxF]
 ·
  replace h1 := of_decide_eq_false h1
  rw [drop_out (l := c.entries.l) Q7] at hJ
  refine WC.exit ?_
  refine At.thenexit ?_
  refine At.thenexit ?_
  refine At.blockexit ?_
  refine At.then_ ?_
  refine WC.seq ?_
  refine Qa ?_
  refine WL.next ?_
  refine WC.ret ?_
  refine fin1' rfl Q0 ?_
  refine RetP.mk hs ?_
  rw [hJ]; simp_all [idxF]

theorem c_spec_IsAddr (a : TAddr) (w : World) (h_a : Ph.ok w a)  : Calls Tryd.prog 120 [.agg #[S a.host, S a.path]].toArray w (RetP w (Bo (a.is))) := by
 refine enterN 11 Tryd.func120 rfl rfl rfl ?_
 have hs := Sat.start w
 refine WC.seq ?_
 refine WL.r Q0 (Yr.box hs Q0 Q0) ?_
 clear hs; rintro _ w ⟨b1, rfl, hb, hs⟩; clear hb
 refine Qa ?_
 refine WL.next ?_
 refine WC.seq ?_
 refine WL.p Q0 (Yl.fieldAddr fa43_0 Q0) ?_
 refine WL.p Q0 (Yl.loadB sca9 Q0 hs Q1 Q0) ?_
 refine WL.callp hs Q0 (Yc.func Q0 fn112) (c_spec_IsName _ _ (Ph.old h_a.host hs)) ?_
 clear hs; intro w hs
 refine Qm ?_
 refine WL.split (d := 6) Q0 (fun h1 => ?_) (fun h1 => ?_)
 ·
  refine WL.run (d := 6) Q0 Q0 ?_
  refine WL.p Q0 (Yl.fieldAddr fa43_1 Q0) ?_
  refine WL.run (d := 6) Q0 Q0 ?_
  refine WL.p Q0 (Yl.loadB sca9 Q0 hs Q1 Q0) ?_
  refine WL.run (d := 6) Q0 Q0 ?_
  refine WL.callp hs Q0 (Yc.func Q0 fn112) (c_spec_IsName _ _ (Ph.old h_a.path hs)) ?_
  clear hs; intro w hs
  refine WL.p Q0 (Yl.pickT Q0 Q0) ?_
  refine Qa ?_
  refine WL.next ?_
  refine WC.ret ?_
  refine fin1' rfl Q0 ?_
  refine RetP.mk hs ?_
  simp_all [TAddr.is]
 ·
  refine WL.skip (d := 6) Q0 Q0 Q0 Q0 ?_
  refine WL.skip (d := 6) Q0 Q0 Q0 Q0 ?_
  refine WL.skip (d := 6) Q0 Q0 Q0 Q0 ?_
  refine WL.p Q0 (Yl.pickF Q0 Q0) ?_
  refine Qa ?_
  refine WL.next ?_
  refine WC.ret ?_
  refine fin1' rfl Q0 ?_
  refine RetP.mk hs ?_
  simp_all [TAddr.is]

theorem c_spec_IsCache (c : PCache) (w : World) (h_c : Ph.ok w c) (hp : ∀ e ∈ c.entries.l, e.response.policy.length ≤ 1048576) : Calls Tryd.prog 77 [.agg #[Sl.v c.entries]].toArray w (RetP w (Bo (cacheOk c.lg))) := by
 have hw := h_c.entries.lt
 refine enterN 53 Tryd.func77 rfl rfl rfl ?_
 have hs := Sat.start w
 refine WC.seq ?_
 refine WL.r Q0 (Yr.box hs Q0 Q0) ?_
 clear hs; rintro _ w ⟨b1, rfl, hb, hs⟩; clear hb
 refine Qa ?_
 refine WL.next ?_
 refine WC.seq' ?_
 refine WC.seq ?_
 refine Qa ?_
 refine WL.next ?_
 refine WC.block ?_
 refine WC.loopC (ι := Nat) (fun k => c.entries.l.length - k) (fun k => [(3, I (k : Int))]) (fun _ => []) (fun k => uniqF entryOk sameEntry [] c.entries.l = uniqF entryOk sameEntry (c.entries.l.take k) (c.entries.l.drop k)) [(0, _), (1, _)] 0 (hs) ⟨by rfl, by rfl, trivial⟩ ⟨by rfl, trivial⟩ ?_ ?_
 ·
  simp
 clear hs; rintro k w hJ hs
 simp only [List.nil_append] at hs
 refine WC.seq' ?_
 refine WC.seq ?_
 refine Qm ?_
 refine WL.p Q0 (Yl.fieldAddr fa41_0 Q0) ?_
 refine WL.p Q0 (Yl.loadB sca39 Q0 hs Q1 Q0) ?_
 refine WL.p Q0 (Yl.len_sl slu39 Q0) ?_
 refine WL.p Q0 (Yl.lss Q0 Q0) ?_
 refine WL.next ?_
 refine WC.condS Q0 (fun h1 => ?_) (fun h1 => ?_)
 ·
  replace h1 := of_decide_eq_true h1
  obtain ⟨d, hd⟩ := exists_get (l := c.entries.l) (k := k) Q7
  rw [uniq_step hd] at hJ
  have hpd : d.response.policy.length ≤ 1048576 := hp d (List.mem_of_getElem? hd)
  have hix := idx_first0 (p := fun e : TEntry => decide (e.top = d.top) && decide (e.to = d.to)) hd (by simp)
  replace hix : _ ↔ (c.entries.l.take k).any (sameEntry d) = false := hix
  generalize (c.entries.l.take k).any (sameEntry d) = u at hJ hix
  refine WC.skipn ?_
  refine WC.seq' ?_
  refine WC.block ?_
  refine WC.seq ?_
  refine WL.p Q0 (Yl.fieldAddr fa41_0 Q0) ?_
  refine WL.p Q0 (Yl.loadB sca39 Q0 hs Q1 Q0) ?_
  refine Qm ?_
  refine WL.p Q0 (Yl.indexAddr slt39 Q0 Q0 (Ph.old h_c.entries hs) Q0 (hd)) ?_
  refine WL.p Q0 (Yl.loadA agg99 Q0 (Sl.Ok.at_ (Ph.old h_c.entries hs) (by assumption)).2 Q0) ?_
  refine WL.r Q0 (Yr.alloc hs zt99) ?_
  clear hs; rintro _ w ⟨b2, rfl, hb, hs⟩; clear hb
  refine WL.s (Yr.storeB hs Q0 Q0 Q0 Q5 Q3 Q0 (by exact szf99)) ?_
  clear hs; rintro _ w hs
  refine WL.next ?_
  refine WC.seq ?_
  refine WL.p Q0 (Yl.fieldAddr fa99_0 Q0) ?_
  refine WL.p Q0 (Yl.loadB sca9 Q0 hs Q1 Q0) ?_
  refine WL.callp hs Q0 (Yc.func Q0 fn112) (c_spec_IsName _ _ (Ph.old (Sl.Ok.elem h_c.entries hd).top hs)) ?_
  clear hs; intro w hs
  refine WL.p Q0 (Yl.not Q0) ?_
  refine Qm ?_
  refine WL.split (d := 21) Q0 (fun h2 => ?_) (fun h2 => ?_)
  ·
   replace h2 := not_eq_true h2
   refine WL.skip (d := 21) Q0 Q0 Q0 Q0 ?_
   refine WL.skip (d := 21) Q0 Q0 Q0 Q0 ?_
   refine WL.skip (d := 21) Q0 Q0 Q0 Q0 ?_
   refine WL.skip (d := 21) Q0 Q0 Q0 Q0 ?_
   refine WL.p Q0 (Yl.pickT Q0 Q0) ?_
   refine Qm ?_
   refine WL.skip (d := 27) Q0 Q0 Q0 Q0 ?_
   refine WL.skip (d := 27) Q0 Q0 Q0 Q0 ?_
   refine WL.skip (d := 27) Q0 Q0 Q0 Q0 ?_
   refine WL.skip (d := 27) Q0 Q0 Q0 Q0 ?_
   refine WL.p Q0 (Yl.pickT Q0 Q0) ?_
   refine Qm ?_
   refine WL.skip (d := 33) Q0 Q0 Q0 Q0 ?_
   refine WL.skip (d := 33) Q0 Q0 Q0 Q0 ?_
   refine WL.skip (d := 33) Q0 Q0 Q0 Q0 ?_
   refine WL.skip (d := 33) Q0 Q0 Q0 Q0 ?_
   refine WL.p Q0 (Yl.pickT Q0 Q0) ?_
   refine Qm ?_
   refine WL.skip (d := 39) Q0 Q0 Q0 Q0 ?_
   refine WL.skip (d := 39) Q0 Q0 Q0 Q0 ?_
   refine WL.skip (d := 39) Q0 Q0 Q0 Q0 ?_
   refine WL.skip (d := 39) Q0 Q0 Q0 Q0 ?_
   refine WL.skip (d := 39) Q0 Q0 Q0 Q0 ?_
   refine WL.skip (d := 39) Q0 Q0 Q0 Q0 ?_
   refine WL.skip (d := 39) Q0 Q0 Q0 Q0 ?_
   refine WL.skip (d := 39) Q0 Q0 Q0 Q0 ?_
   refine WL.p Q0 (Yl.pickT Q0 Q0) ?_
   refine WL.next ?_
   refine WC.condT Q0 ?_
   refine WC.seq ?_
   refine Qa ?_
   refine WL.next ?_
   refine WC.ret ?_
   refine At.blockret ?_
   refine At.thenret ?_
   refine At.thenret ?_
   refine At.blockret ?_
   refine At.thenret ?_
   refine fin1' rfl Q0 ?_
   refine RetP.mk hs ?_
   simp only [cacheOk]
   simp_all [entryOk]
   try omega
  ·
   replace h2 := not_eq_false h2
   refine WL.run (d := 21) Q0 Q0 ?_
   refine WL.p Q0 (Yl.fieldAddr fa99_1 Q0) ?_
   refine WL.run (d := 21) Q0 Q0 ?_
   refine WL.p Q0 (Yl.loadAB agg43 Q0 hs Q1 Q0 Q0) ?_
   refine WL.run (d := 21) Q0 Q0 ?_
   refine WL.callp hs Q0 (Yc.func Q0 fn120) (c_spec_IsAddr _ _ ⟨(Ph.old (Sl.Ok.elem h_c.entries hd).to.host hs), (Ph.old (Sl.Ok.elem h_c.entries hd).to.path hs)⟩) ?_
   clear hs; intro w hs
   refine WL.run (d := 21) Q0 Q0 ?_
   refine WL.p Q0 (Yl.not Q0) ?_
   refine WL.p Q0 (Yl.pickF Q0 Q0) ?_
   refine Qm ?_
   refine WL.split (d := 27) Q0 (fun h3 => ?_) (fun h3 => ?_)
   ·
    replace h3 := not_eq_true h3
    refine WL.skip (d := 27) Q0 Q0 Q0 Q0 ?_
    refine WL.skip (d := 27) Q0 Q0 Q0 Q0 ?_
    refine WL.skip (d := 27) Q0 Q0 Q0 Q0 ?_
    refine WL.skip (d := 27) Q0 Q0 Q0 Q0 ?_
    refine WL.p Q0 (Yl.pickT Q0 Q0) ?_
    refine Qm ?_
    refine WL.skip (d := 33) Q0 Q0 Q0 Q0 ?_
    refine WL.skip (d := 33) Q0 Q0 Q0 Q0 ?_
    refine WL.skip (d := 33) Q0 Q0 Q0 Q0 ?_
    refine WL.skip (d := 33) Q0 Q0 Q0 Q0 ?_
    refine WL.p Q0 (Yl.pickT Q0 Q0) ?_
    refine Qm ?_
    refine WL.skip (d := 39) Q0 Q0 Q0 Q0 ?_
    refine WL.skip (d := 39) Q0 Q0 Q0 Q0 ?_
    refine WL.skip (d := 39) Q0 Q0 Q0 Q0 ?_
    refine WL.skip (d := 39) Q0 Q0 Q0 Q0 ?_
    refine WL.skip (d := 39) Q0 Q0 Q0 Q0 ?_
    refine WL.skip (d := 39) Q0 Q0 Q0 Q0 ?_
    refine WL.skip (d := 39) Q0 Q0 Q0 Q0 ?_
    refine WL.skip (d := 39) Q0 Q0 Q0 Q0 ?_
    refine WL.p Q0 (Yl.pickT Q0 Q0) ?_
    refine WL.next ?_
    refine WC.condT Q0 ?_
    refine WC.seq ?_
    refine Qa ?_
    refine WL.next ?_
    refine WC.ret ?_
    refine At.blockret ?_
    refine At.thenret ?_
    refine At.thenret ?_
    refine At.blockret ?_
    refine At.thenret ?_
    refine fin1' rfl Q0 ?_
    refine RetP.mk hs ?_
    simp only [cacheOk]
    simp_all [entryOk]
    try omega
   ·
    replace h3 := not_eq_false h3
    refine WL.run (d := 27) Q0 Q0 ?_
    refine WL.p Q0 (Yl.fieldAddr fa99_2 Q0) ?_
    refine WL.run (d := 27) Q0 Q0 ?_
    refine WL.p Q0 (Yl.loadAB agg45 Q0 hs Q1 Q0 Q0) ?_
    refine WL.run (d := 27) Q0 Q0 ?_
    refine WL.callp hs Q0 (Yc.func Q0 fn44) (c_spec_IsResponse _ _ ⟨(Ph.old (Sl.Ok.elem h_c.entries hd).response.status hs), (Ph.old (Sl.Ok.elem h_c.entries hd).response.kind hs), (Ph.old (Sl.Ok.elem h_c.entries hd).response.body hs), (Ph.old (Sl.Ok.elem h_c.entries hd).response.age hs), (Ph.old (Sl.Ok.elem h_c.entries hd).response.shares hs), (Ph.old (Sl.Ok.elem h_c.entries hd).response.policy hs)⟩ (by first | assumption | omega)) ?_
    clear hs; intro w hs
    refine WL.run (d := 27) Q0 Q0 ?_
    refine WL.p Q0 (Yl.not Q0) ?_
    refine WL.p Q0 (Yl.pickF Q0 Q0) ?_
    refine Qm ?_
    refine WL.split (d := 33) Q0 (fun h4 => ?_) (fun h4 => ?_)
    ·
     replace h4 := not_eq_true h4
     refine WL.skip (d := 33) Q0 Q0 Q0 Q0 ?_
     refine WL.skip (d := 33) Q0 Q0 Q0 Q0 ?_
     refine WL.skip (d := 33) Q0 Q0 Q0 Q0 ?_
     refine WL.skip (d := 33) Q0 Q0 Q0 Q0 ?_
     refine WL.p Q0 (Yl.pickT Q0 Q0) ?_
     refine Qm ?_
     refine WL.skip (d := 39) Q0 Q0 Q0 Q0 ?_
     refine WL.skip (d := 39) Q0 Q0 Q0 Q0 ?_
     refine WL.skip (d := 39) Q0 Q0 Q0 Q0 ?_
     refine WL.skip (d := 39) Q0 Q0 Q0 Q0 ?_
     refine WL.skip (d := 39) Q0 Q0 Q0 Q0 ?_
     refine WL.skip (d := 39) Q0 Q0 Q0 Q0 ?_
     refine WL.skip (d := 39) Q0 Q0 Q0 Q0 ?_
     refine WL.skip (d := 39) Q0 Q0 Q0 Q0 ?_
     refine WL.p Q0 (Yl.pickT Q0 Q0) ?_
     refine WL.next ?_
     refine WC.condT Q0 ?_
     refine WC.seq ?_
     refine Qa ?_
     refine WL.next ?_
     refine WC.ret ?_
     refine At.blockret ?_
     refine At.thenret ?_
     refine At.thenret ?_
     refine At.blockret ?_
     refine At.thenret ?_
     refine fin1' rfl Q0 ?_
     refine RetP.mk hs ?_
     simp only [cacheOk]
     simp_all [entryOk]
     try omega
    ·
     replace h4 := not_eq_false h4
     refine WL.run (d := 33) Q0 Q0 ?_
     refine WL.p Q0 (Yl.fieldAddr fa99_2 Q0) ?_
     refine WL.run (d := 33) Q0 Q0 ?_
     refine WL.p Q0 (Yl.fieldAddr fa45_0 Q0) ?_
     refine WL.run (d := 33) Q0 Q0 ?_
     refine WL.p Q0 (Yl.loadB sca3 Q0 hs Q1 Q0) ?_
     refine WL.run (d := 33) Q0 Q0 ?_
     refine WL.p Q0 (Yl.nei Q0 Q0) ?_
     refine WL.p Q0 (Yl.pickF Q0 Q0) ?_
     refine Qm ?_
     refine WL.split (d := 39) Q0 (fun h5 => ?_) (fun h5 => ?_)
     ·
      replace h5 := not_eq_true h5
      replace h5 := of_decide_eq_false h5
      refine WL.skip (d := 39) Q0 Q0 Q0 Q0 ?_
      refine WL.skip (d := 39) Q0 Q0 Q0 Q0 ?_
      refine WL.skip (d := 39) Q0 Q0 Q0 Q0 ?_
      refine WL.skip (d := 39) Q0 Q0 Q0 Q0 ?_
      refine WL.skip (d := 39) Q0 Q0 Q0 Q0 ?_
      refine WL.skip (d := 39) Q0 Q0 Q0 Q0 ?_
      refine WL.skip (d := 39) Q0 Q0 Q0 Q0 ?_
      refine WL.skip (d := 39) Q0 Q0 Q0 Q0 ?_
      refine WL.p Q0 (Yl.pickT Q0 Q0) ?_
      refine WL.next ?_
      refine WC.condT Q0 ?_
      refine WC.seq ?_
      refine Qa ?_
      refine WL.next ?_
      refine WC.ret ?_
      refine At.blockret ?_
      refine At.thenret ?_
      refine At.thenret ?_
      refine At.blockret ?_
      refine At.thenret ?_
      refine fin1' rfl Q0 ?_
      refine RetP.mk hs ?_
      simp only [cacheOk]
      simp_all [entryOk]
      try omega
     ·
      replace h5 := not_eq_false h5
      replace h5 := of_decide_eq_true h5
      refine WL.run (d := 39) Q0 Q0 ?_
      refine WL.p Q0 (Yl.loadAB agg41 Q0 hs Q1 Q0 Q0) ?_
      refine WL.run (d := 39) Q0 Q0 ?_
      refine WL.p Q0 (Yl.fieldAddr fa99_0 Q0) ?_
      refine WL.run (d := 39) Q0 Q0 ?_
      refine WL.p Q0 (Yl.loadB sca9 Q0 hs Q1 Q0) ?_
      refine WL.run (d := 39) Q0 Q0 ?_
      refine WL.p Q0 (Yl.fieldAddr fa99_1 Q0) ?_
      refine WL.run (d := 39) Q0 Q0 ?_
      refine WL.p Q0 (Yl.loadAB agg43 Q0 hs Q1 Q0 Q0) ?_
      refine WL.run (d := 39) Q0 Q0 ?_
      refine WL.callp hs Q0 (Yc.func Q0 fn78) (c_spec_l13Find _ _ _ _ (Ph.old h_c hs)) ?_
      clear hs; intro w hs
      refine WL.run (d := 39) Q0 Q0 ?_
      refine Qm ?_
      refine WL.run (d := 39) Q0 Q0 ?_
      refine WL.p Q0 (Yl.nei Q0 Q0) ?_
      refine WL.p Q0 (Yl.pickF Q0 Q0) ?_
      refine WL.next ?_
      refine WC.condS Q0 (fun h6 => ?_) (fun h6 => ?_)
      ·
       replace h6 := not_eq_true h6
       replace h6 := of_decide_eq_false h6
       refine WC.seq ?_
       refine Qa ?_
       refine WL.next ?_
       refine WC.ret ?_
       refine At.blockret ?_
       refine At.thenret ?_
       refine At.thenret ?_
       refine At.blockret ?_
       refine At.thenret ?_
       refine fin1' rfl Q0 ?_
       refine RetP.mk hs ?_
       simp only [cacheOk]
       simp_all [entryOk]
       try omega
      ·
       replace h6 := not_eq_false h6
       replace h6 := of_decide_eq_true h6
       refine WC.skip ?_
       refine At.blocknormal ?_
       refine At.then_ ?_
       refine WC.region ?_
       refine Qm ?_
       refine WL.p Q0 (Yl.add Q0 Q0 Q7) ?_
       refine Qa ?_
       refine WL.nil ?_
       refine At.roundC (k + 1) (hs.only Q2) ⟨by rfl, by rfl, trivial⟩ ⟨by rfl, trivial⟩ ?_ ?_
       ·
        omega
       ·
        rw [hJ]; simp_all [entryOk]
 ·
  replace h1 := of_decide_eq_false h1
  rw [uniq_end (l := c.entries.l) Q7] at hJ
  refine WC.exit ?_
  refine At.thenexit ?_
  refine At.thenexit ?_
  refine At.blockexit ?_
  refine At.then_ ?_
  refine WC.seq ?_
  refine WL.p Q0 (Yl.fieldAddr fa41_0 Q0) ?_
  refine WL.p Q0 (Yl.loadB sca39 Q0 hs Q1 Q0) ?_
  refine WL.p Q0 (Yl.len_sl slu39 Q0) ?_
  refine WL.p Q0 (Yl.leq Q0 Q0) ?_
  refine Qa ?_
  refine WL.next ?_
  refine WC.ret ?_
  refine fin1' rfl Q0 ?_
  refine RetP.mk hs ?_
  simp only [cacheOk]
  simp_all [entryOk]
  try omega

theorem c_spec_StoreEntry (c : PCache) (top : Str) (a : TAddr) (y : TResponse) (now : Int) (w : World) (h_c : Ph.ok w c) (h_top : Ph.ok w top) (h_a : Ph.ok w a) (h_y : Ph.ok w y) (h_now : Ph.ok w now) (hbc : c.lg.size ≤ 1048576) (hpy : y.policy.length ≤ 1048576) : Calls Tryd.prog 23 [.agg #[Sl.v c.entries], S top, .agg #[S a.host, S a.path], .agg #[I y.status, I y.kind, S y.body, I y.age, Bo y.shares, S y.policy], I now].toArray w (Ret w (fun v w' => ∃ x : PCache, v = .agg (Ph.enc x).toArray ∧ x.lg = storeEntry c.lg top a y now ∧ Fresh w x w')) := by
 refine enterN 66 Tryd.func23 rfl rfl rfl ?_
 have hs := Sat.start w
 refine WC.seq ?_
 refine WL.r Q0 (Yr.box hs Q0 Q0) ?_
 clear hs; rintro _ w ⟨b1, rfl, hb, hs⟩; clear hb
 refine WL.r Q0 (Yr.box hs Q0 Q0) ?_
 clear hs; rintro _ w ⟨b2, rfl, hb, hs⟩; clear hb
 refine WL.r Q0 (Yr.box hs Q0 Q0) ?_
 clear hs; rintro _ w ⟨b3, rfl, hb, hs⟩; clear hb
 refine WL.r Q0 (Yr.alloc hs zt41) ?_
 clear hs; rintro _ w ⟨b4, rfl, hb, hs⟩; clear hb
 refine WL.next ?_
 refine WC.seq ?_
 refine WL.p Q0 (Yl.loadAB agg41 Q0 hs Q1 Q0 Q0) ?_
 refine WL.call hs Q0 (Yc.func Q0 fn75) (c_spec_l13Copy _ _ (Ph.old h_c hs) Q10) ?_
 have hs0 := hs; clear hs; intro v w hb hR hs; clear hs
 obtain ⟨x5, rfl, hx5, hf5⟩ := hR
 obtain ⟨F5, hs⟩ := hf5.sat hs0 hb; clear hs0 hf5
 refine WL.r Q0 (Yr.alloc hs zt41) ?_
 clear hs; rintro _ w ⟨b6, rfl, hb, hs⟩; clear hb
 refine WL.s (Yr.storeB hs Q0 Q0 Q0 Q5 Q3 Q0 (by exact szf41)) ?_
 clear hs; rintro _ w hs
 refine WL.next ?_
 refine WC.seq' ?_
 refine WC.seq ?_
 refine WL.p Q0 (Yl.fieldAddr fa45_3 Q0) ?_
 refine WL.p Q0 (Yl.loadB sca3 Q0 hs Q1 Q0) ?_
 refine WL.p Q0 (Yl.eqi Q0 Q0) ?_
 refine Qm ?_
 refine WL.split (d := 19) Q0 (fun h1 => ?_) (fun h1 => ?_)
 ·
  replace h1 := of_decide_eq_true h1
  refine WL.skip (d := 19) Q0 Q0 Q0 Q0 ?_
  refine WL.skip (d := 19) Q0 Q0 Q0 Q0 ?_
  refine WL.skip (d := 19) Q0 Q0 Q0 Q0 ?_
  refine WL.p Q0 (Yl.pickT Q0 Q0) ?_
  refine Qm ?_
  refine WL.skip (d := 24) Q0 Q0 Q0 Q0 ?_
  refine WL.skip (d := 24) Q0 Q0 Q0 Q0 ?_
  refine WL.skip (d := 24) Q0 Q0 Q0 Q0 ?_
  refine WL.p Q0 (Yl.pickT Q0 Q0) ?_
  refine Qm ?_
  refine WL.skip (d := 29) Q0 Q0 Q0 Q0 ?_
  refine WL.skip (d := 29) Q0 Q0 Q0 Q0 ?_
  refine WL.skip (d := 29) Q0 Q0 Q0 Q0 ?_
  refine WL.p Q0 (Yl.pickT Q0 Q0) ?_
  refine WL.next ?_
  refine WC.condT Q0 ?_
  refine WC.seq ?_
  refine WL.p Q0 (Yl.loadAB agg41 Q0 hs Q1 Q0 Q0) ?_
  refine WL.s (Yr.storeB hs Q0 Q0 Q0 Q5 Q3 Q0 (by exact szf41)) ?_
  clear hs; rintro _ w hs
  refine WL.next ?_
  refine WC.ret ?_
  refine At.thenret ?_
  refine fin1c rfl agg41 Q0 hs Q1 Q0 ?_
  refine Ret.mk hs ?_
  try rw [hpe] at h1
  have hb9 : storeIs c.lg top a y now = false := by
   clear hs
   cases h9 : storeIs c.lg top a y now with
   | false => rfl
   | true =>
    exfalso
    have h8 := storeIs_isv h9
    try simp only [← inR_true] at *
    try simp only [← inR_false] at *
    simp_all [storeIs]
  exact ⟨x5, rfl, hx5.trans (storeEntry_no hb9).symm, hs.fresh Q1⟩
 ·
  replace h1 := of_decide_eq_false h1
  refine WL.run (d := 19) Q0 Q0 ?_
  refine Qm ?_
  refine WL.run (d := 19) Q0 Q0 ?_
  refine WL.callp hs Q0 (Yc.func Q0 fn76) (c_spec_l1In _ _ _ _) ?_
  clear hs; intro w hs
  refine WL.run (d := 19) Q0 Q0 ?_
  refine WL.p Q0 (Yl.not Q0) ?_
  refine WL.p Q0 (Yl.pickF Q0 Q0) ?_
  refine Qm ?_
  refine WL.split (d := 24) Q0 (fun h2 => ?_) (fun h2 => ?_)
  ·
   replace h2 := not_eq_true h2
   replace h2 := inR_false.1 h2
   refine WL.skip (d := 24) Q0 Q0 Q0 Q0 ?_
   refine WL.skip (d := 24) Q0 Q0 Q0 Q0 ?_
   refine WL.skip (d := 24) Q0 Q0 Q0 Q0 ?_
   refine WL.p Q0 (Yl.pickT Q0 Q0) ?_
   refine Qm ?_
   refine WL.skip (d := 29) Q0 Q0 Q0 Q0 ?_
   refine WL.skip (d := 29) Q0 Q0 Q0 Q0 ?_
   refine WL.skip (d := 29) Q0 Q0 Q0 Q0 ?_
   refine WL.p Q0 (Yl.pickT Q0 Q0) ?_
   refine WL.next ?_
   refine WC.condT Q0 ?_
   refine WC.seq ?_
   refine WL.p Q0 (Yl.loadAB agg41 Q0 hs Q1 Q0 Q0) ?_
   refine WL.s (Yr.storeB hs Q0 Q0 Q0 Q5 Q3 Q0 (by exact szf41)) ?_
   clear hs; rintro _ w hs
   refine WL.next ?_
   refine WC.ret ?_
   refine At.thenret ?_
   refine fin1c rfl agg41 Q0 hs Q1 Q0 ?_
   refine Ret.mk hs ?_
   try rw [hpe] at h2
   have hb9 : storeIs c.lg top a y now = false := by
    clear hs
    cases h9 : storeIs c.lg top a y now with
    | false => rfl
    | true =>
     exfalso
     have h8 := storeIs_isv h9
     try simp only [← inR_true] at *
     try simp only [← inR_false] at *
     simp_all [storeIs]
   exact ⟨x5, rfl, hx5.trans (storeEntry_no hb9).symm, hs.fresh Q1⟩
  ·
   replace h2 := not_eq_false h2
   replace h2 := inR_true.1 h2
   refine WL.run (d := 24) Q0 Q0 ?_
   refine WL.p Q0 (Yl.loadAB agg45 Q0 hs Q1 Q0 Q0) ?_
   refine WL.run (d := 24) Q0 Q0 ?_
   refine WL.callp hs Q0 (Yc.func Q0 fn44) (c_spec_IsResponse _ _ (Ph.old h_y hs) Q10) ?_
   clear hs; intro w hs
   refine WL.run (d := 24) Q0 Q0 ?_
   refine WL.p Q0 (Yl.not Q0) ?_
   refine WL.p Q0 (Yl.pickF Q0 Q0) ?_
   refine Qm ?_
   refine WL.split (d := 29) Q0 (fun h3 => ?_) (fun h3 => ?_)
   ·
    replace h3 := not_eq_true h3
    refine WL.skip (d := 29) Q0 Q0 Q0 Q0 ?_
    refine WL.skip (d := 29) Q0 Q0 Q0 Q0 ?_
    refine WL.skip (d := 29) Q0 Q0 Q0 Q0 ?_
    refine WL.p Q0 (Yl.pickT Q0 Q0) ?_
    refine WL.next ?_
    refine WC.condT Q0 ?_
    refine WC.seq ?_
    refine WL.p Q0 (Yl.loadAB agg41 Q0 hs Q1 Q0 Q0) ?_
    refine WL.s (Yr.storeB hs Q0 Q0 Q0 Q5 Q3 Q0 (by exact szf41)) ?_
    clear hs; rintro _ w hs
    refine WL.next ?_
    refine WC.ret ?_
    refine At.thenret ?_
    refine fin1c rfl agg41 Q0 hs Q1 Q0 ?_
    refine Ret.mk hs ?_
    try rw [hpe] at h3
    have hb9 : storeIs c.lg top a y now = false := by
     clear hs
     cases h9 : storeIs c.lg top a y now with
     | false => rfl
     | true =>
      exfalso
      have h8 := storeIs_isv h9
      try simp only [← inR_true] at *
      try simp only [← inR_false] at *
      simp_all [storeIs]
    exact ⟨x5, rfl, hx5.trans (storeEntry_no hb9).symm, hs.fresh Q1⟩
   ·
    replace h3 := not_eq_false h3
    refine WL.run (d := 29) Q0 Q0 ?_
    refine WL.p Q0 (Yl.loadAB agg41 Q0 hs Q1 Q0 Q0) ?_
    refine WL.run (d := 29) Q0 Q0 ?_
    refine WL.callp hs Q0 (Yc.func Q0 fn77) (c_spec_IsCache _ _ (Ph.old h_c hs) (by exact cache_pol hbc)) ?_
    clear hs; intro w hs
    refine WL.run (d := 29) Q0 Q0 ?_
    refine WL.p Q0 (Yl.not Q0) ?_
    refine WL.p Q0 (Yl.pickF Q0 Q0) ?_
    refine WL.next ?_
    refine WC.condS Q0 (fun h4 => ?_) (fun h4 => ?_)
    ·
     replace h4 := not_eq_true h4
     refine WC.seq ?_
     refine WL.p Q0 (Yl.loadAB agg41 Q0 hs Q1 Q0 Q0) ?_
     refine WL.s (Yr.storeB hs Q0 Q0 Q0 Q5 Q3 Q0 (by exact szf41)) ?_
     clear hs; rintro _ w hs
     refine WL.next ?_
     refine WC.ret ?_
     refine At.thenret ?_
     refine fin1c rfl agg41 Q0 hs Q1 Q0 ?_
     refine Ret.mk hs ?_
     try rw [hpe] at h4
     have hb9 : storeIs c.lg top a y now = false := by
      clear hs
      cases h9 : storeIs c.lg top a y now with
      | false => rfl
      | true =>
       exfalso
       have h8 := storeIs_isv h9
       try simp only [← inR_true] at *
       try simp only [← inR_false] at *
       simp_all [storeIs]
     exact ⟨x5, rfl, hx5.trans (storeEntry_no hb9).symm, hs.fresh Q1⟩
    ·
     replace h4 := not_eq_false h4
     refine WC.skipn ?_
     refine WC.seq ?_
     refine Qm ?_
     refine WL.p Q0 (Yl.loadAB agg43 Q0 hs Q1 Q0 Q0) ?_
     refine WL.p Q0 (Yl.loadAB agg45 Q0 hs Q1 Q0 Q0) ?_
     refine Qm ?_
     refine WL.p Q0 (Yl.fieldAddr fa45_3 Q0) ?_
     refine WL.p Q0 (Yl.loadB sca3 Q0 hs Q1 Q0) ?_
     refine WL.p Q0 (Yl.add Q0 Q0 (by have := h_y.age.1; have := h_y.age.2; simp only [TResponse.isv, Bool.and_eq_true, inR_true] at h3; omega)) ?_
     refine WL.p Q0 (Yl.build bt99 Q0 Q4) ?_
     refine WL.r Q0 (Yr.alloc hs zt99) ?_
     clear hs; rintro _ w ⟨b7, rfl, hb, hs⟩; clear hb
     refine WL.s (Yr.storeB hs Q0 Q0 Q0 Q5 Q3 Q0 (by exact szf99)) ?_
     clear hs; rintro _ w hs
     refine WL.next ?_
     refine WC.seq' ?_
     refine WC.seq ?_
     refine WL.p Q0 (Yl.loadAB agg41 Q0 hs Q1 Q0 Q0) ?_
     refine Qm ?_
     refine WL.p Q0 (Yl.loadAB agg43 Q0 hs Q1 Q0 Q0) ?_
     refine WL.callp hs Q0 (Yc.func Q0 fn78) (c_spec_l13Find _ _ _ _ (Ph.old h_c hs)) ?_
     clear hs; intro w hs
     refine Qa ?_
     refine WL.next ?_
     refine WC.seq ?_
     refine Qm ?_
     refine WL.p Q0 (Yl.geq Q0 Q0) ?_
     refine WL.next ?_
     refine WC.condS Q0 (fun h5 => ?_) (fun h5 => ?_)
     ·
      replace h5 := of_decide_eq_true h5
      obtain ⟨j, d, hj, hd, hf⟩ := idxF_some (p := atF top a) (l := c.entries.l) (k := 0) (show ¬ idxF (atF top a) c.entries.l 0 < 0 from Int.not_lt.2 h5)
      rw [Nat.zero_add] at hj
      have hxe : x5.entries.l = c.entries.l := congrArg TCache.entries hx5
      have hdx : x5.entries.l[j]? = some d := by rw [hxe]; exact hd
      have hklt : j < x5.entries.l.length := (List.getElem?_eq_some_iff.1 hdx).1
      refine WC.region ?_
      refine WL.p Q0 (Yl.fieldAddr fa41_0 Q0) ?_
      refine WL.p Q0 (Yl.loadB sca39 Q0 hs Q1 Q0) ?_
      refine Qm ?_
      refine WL.p Q0 (Yl.loadAB agg99 Q0 hs Q1 Q0 Q0) ?_
      refine WL.p Q0 (Yl.indexAddr slt39 Q0 Q0 (hs.okow (x := x5) (F := F5) Q1).entries (by exact hj) (hdx)) ?_
      obtain ⟨K8, hfl8, hs⟩ := PCache.split (hs.sel (D := [ow x5 F5]) Q2)
      try simp only [List.cons_append, List.nil_append] at hs
      refine WL.s (Yr.storeE (u := (newEntry top a y now)) (k := j) (hs.flat (x := ((newEntry top a y now) : TEntry)) (by exact ⟨h_top, Flat.any h_a, Flat.any h_y, (show WfI _ from by have h9 := h3; simp only [TResponse.isv, Bool.and_eq_true, inR_true] at h9; show WfI (now + y.age); exact ⟨by omega, by omega⟩)⟩)) Q2 Q0 Q0 Q0 (by exact hklt) ⟨_, by rfl, by rfl⟩ szf99) ?_
      clear hs; rintro _ w ⟨F8, hs⟩
      obtain ⟨s8, hv8, hl8, hs⟩ := restore hs
      replace hs := PCache.join ⟨s8⟩ (hs.sel (D := [ow s8 F8]) Q2)
      try simp only [List.cons_append, List.nil_append] at hs
      have he8 : Ph.enc (⟨s8⟩ : PCache) = Ph.enc x5 := by show [s8.v] = [x5.entries.v]; rw [hv8]
      refine WL.nil ?_
      refine At.then_ ?_
      refine WC.seq' ?_
      refine WC.seq ?_
      refine WL.p Q0 (Yl.loadAB agg41 Q0 hs Q1 Q0 Q0) ?_
      have hpe : PCache.lg (⟨s8⟩ : PCache) = putEntry c.lg top a (newEntry top a y now) := by
       rw [putEntry_set (c := c.lg) hj]
       simp only [PCache.lg, hl8, hxe]
      refine WL.callp hs Q0 (Yc.func Q0 fn77) (calls_conv (congrArg (fun z => ([z] : List Value).toArray) (show (.agg #[Sl.v (⟨s8⟩ : PCache).entries] : Value) = .agg #[Sl.v x5.entries] from congrArg (fun l => Value.agg l.toArray) he8)) (c_spec_IsCache (⟨s8⟩ : PCache) _ (hs.okow (x := (⟨s8⟩ : PCache)) (F := F8) Q1) (by show ∀ e ∈ (PCache.lg _).entries, _; rw [hpe]; exact put_pol hbc hpy))) ?_
      clear hs; intro w hs
      refine WL.p Q0 (Yl.not Q0) ?_
      refine WL.next ?_
      refine WC.condS Q0 (fun h6 => ?_) (fun h6 => ?_)
      ·
       replace h6 := not_eq_true h6
       refine WC.seq ?_
       refine WL.p Q0 (Yl.loadAB agg41 Q0 hs Q1 Q0 Q0) ?_
       refine WL.call hs Q0 (Yc.func Q0 fn75) (c_spec_l13Copy _ _ (Ph.old h_c hs) Q10) ?_
       have hs0 := hs; clear hs; intro v w hb hR hs; clear hs
       obtain ⟨x9, rfl, hx9, hf9⟩ := hR
       obtain ⟨F9, hs⟩ := hf9.sat hs0 hb; clear hs0 hf9
       refine WL.s (Yr.storeB hs Q0 Q0 Q0 Q5 Q3 Q0 (by exact szf41)) ?_
       clear hs; rintro _ w hs
       refine WL.next ?_
       refine WC.ret ?_
       refine At.thenret ?_
       refine fin1c rfl agg41 Q0 hs Q1 Q0 ?_
       refine Ret.mk hs ?_
       try rw [hpe] at h6
       have hb9 : storeIs c.lg top a y now = false := by
        clear hs
        cases h9 : storeIs c.lg top a y now with
        | false => rfl
        | true =>
         exfalso
         have h8 := storeIs_isv h9
         try simp only [← inR_true] at *
         try simp only [← inR_false] at *
         simp_all [storeIs]
       exact ⟨x9, rfl, hx9.trans (storeEntry_no hb9).symm, hs.fresh Q1⟩
      ·
       replace h6 := not_eq_false h6
       refine WC.skipn ?_
       refine WC.seq ?_
       refine WL.p Q0 (Yl.loadAB agg41 Q0 hs Q1 Q0 Q0) ?_
       refine WL.s (Yr.storeB hs Q0 Q0 Q0 Q5 Q3 Q0 (by exact szf41)) ?_
       clear hs; rintro _ w hs
       refine WL.next ?_
       refine WC.ret ?_
       refine fin1c rfl agg41 Q0 hs Q1 Q0 ?_
       refine Ret.mk hs ?_
       try rw [hpe] at h6
       have hb9 : storeIs c.lg top a y now = true := by
        clear hs
        try simp only [← inR_true] at *
        try simp only [← inR_false] at *
        simp_all [storeIs]
       exact ⟨(⟨s8⟩ : PCache), by rw [he8]; try rfl, hpe.trans (storeEntry_yes hb9).symm, hs.fresh Q1⟩
     ·
      replace h5 := of_decide_eq_false h5
      refine WC.region ?_
      refine WL.p Q0 (Yl.fieldAddr fa41_0 Q0) ?_
      refine WL.p Q0 (Yl.loadB sca39 Q0 hs Q1 Q0) ?_
      refine WL.p Q0 (Yl.loadAB agg99 Q0 hs Q1 Q0 Q0) ?_
      refine WL.r Q0 (Yr.buildSlice hs sll39 Q0 Q0 Q0 Q4 Q0) ?_
      clear hs; rintro _ w ⟨b10, rfl, hb, hs⟩; clear hb
      obtain ⟨K11_0, hfl11, hs⟩ := PCache.split (hs.sel (D := [ow x5 F5]) Q2)
      try simp only [List.cons_append, List.nil_append] at hs
      refine WL.r Q0 (Yr.append (s := x5.entries) (F := K11_0) hs elt39 Q2 Q0 Q0 rfl (xs := [(newEntry top a y now)]) (hs.box_cells Q1) (by intro x hx; obtain rfl := List.mem_singleton.1 hx; exact ⟨h_top, Flat.any h_a, Flat.any h_y, (show WfI _ from by have h9 := h3; simp only [TResponse.isv, Bool.and_eq_true, inR_true] at h9; show WfI (now + y.age); exact ⟨by omega, by omega⟩)⟩) (by have hxe9 : x5.entries.l = c.entries.l := congrArg TCache.entries hx5; rw [hxe9]; simp only [TCache.size, lsz] at hbc; simp; unfold maxLen; omega) (by have hxe9 : x5.entries.l = c.entries.l := congrArg TCache.entries hx5; rw [hxe9]; simp only [TCache.size, lsz] at hbc; simp; omega)) ?_
      clear hs; rintro _ w ⟨s12, F12, rfl, hl12, hs⟩
      refine WL.p Q0 (Yl.fieldAddr fa41_0 Q0) ?_
      refine WL.s (Yr.storeB hs Q0 Q0 Q0 Q5 Q3 Q0 (by exact szf39)) ?_
      clear hs; rintro _ w hs
      refine WL.nil ?_
      refine At.then_ ?_
      refine WC.seq' ?_
      refine WC.seq ?_
      refine WL.p Q0 (Yl.loadAB agg41 Q0 hs Q1 Q0 Q0) ?_
      have hxe : x5.entries.l = c.entries.l := congrArg TCache.entries hx5
      have hpe : PCache.lg ⟨s12⟩ = putEntry c.lg top a (newEntry top a y now) := by
       rw [putEntry_app (c := c.lg) (Int.not_le.1 h5)]
       simp only [PCache.lg, hl12, hxe]
      refine WL.callp hs Q0 (Yc.func Q0 fn77) (c_spec_IsCache (⟨s12⟩ : PCache) _ ⟨(hs.okow (x := s12) (F := F12) Q1)⟩ (by show ∀ e ∈ (PCache.lg _).entries, _; rw [hpe]; exact put_pol hbc hpy)) ?_
      clear hs; intro w hs
      refine WL.p Q0 (Yl.not Q0) ?_
      refine WL.next ?_
      refine WC.condS Q0 (fun h6 => ?_) (fun h6 => ?_)
      ·
       replace h6 := not_eq_true h6
       refine WC.seq ?_
       refine WL.p Q0 (Yl.loadAB agg41 Q0 hs Q1 Q0 Q0) ?_
       refine WL.call hs Q0 (Yc.func Q0 fn75) (c_spec_l13Copy _ _ (Ph.old h_c hs) Q10) ?_
       have hs0 := hs; clear hs; intro v w hb hR hs; clear hs
       obtain ⟨x13, rfl, hx13, hf13⟩ := hR
       obtain ⟨F13, hs⟩ := hf13.sat hs0 hb; clear hs0 hf13
       refine WL.s (Yr.storeB hs Q0 Q0 Q0 Q5 Q3 Q0 (by exact szf41)) ?_
       clear hs; rintro _ w hs
       refine WL.next ?_
       refine WC.ret ?_
       refine At.thenret ?_
       refine fin1c rfl agg41 Q0 hs Q1 Q0 ?_
       refine Ret.mk hs ?_
       try rw [hpe] at h6
       have hb9 : storeIs c.lg top a y now = false := by
        clear hs
        cases h9 : storeIs c.lg top a y now with
        | false => rfl
        | true =>
         exfalso
         have h8 := storeIs_isv h9
         try simp only [← inR_true] at *
         try simp only [← inR_false] at *
         simp_all [storeIs]
       exact ⟨x13, rfl, hx13.trans (storeEntry_no hb9).symm, hs.fresh Q1⟩
      ·
       replace h6 := not_eq_false h6
       refine WC.skipn ?_
       refine WC.seq ?_
       refine WL.p Q0 (Yl.loadAB agg41 Q0 hs Q1 Q0 Q0) ?_
       refine WL.s (Yr.storeB hs Q0 Q0 Q0 Q5 Q3 Q0 (by exact szf41)) ?_
       clear hs; rintro _ w hs
       refine WL.next ?_
       refine WC.ret ?_
       refine fin1c rfl agg41 Q0 hs Q1 Q0 ?_
       refine Ret.mk hs ?_
       try rw [hpe] at h6
       have hb9 : storeIs c.lg top a y now = true := by
        clear hs
        try simp only [← inR_true] at *
        try simp only [← inR_false] at *
        simp_all [storeIs]
       exact ⟨⟨s12⟩, rfl, hpe.trans (storeEntry_yes hb9).symm, (PCache.join ⟨s12⟩ (hs.only (D := [ow s12 F12]) Q2)).fresh List.mem_cons_self⟩

theorem c_spec_l13Cache (c : Nat) (b_ : Sl UInt8) (w : World)   (h_c : CurAt 137 b_ c w) (hb_c : CurB w b_ c) : Calls Tryd.prog 116 [bp c 0].toArray w (RetD 137 b_ c w (fun v w' => ∃ (x : PCache), v = .agg (Ph.enc x).toArray ∧ (True) ∧ (x.lg.size ≤ 10000) ∧ Fresh w x w')) := by
 refine enterN 30 Tryd.func116 rfl rfl rfl ?_
 have hs := Sat.startC h_c
 refine WC.seq ?_
 refine WL.r Q0 (Yr.alloc hs zt41) ?_
 clear hs; rintro _ w ⟨b1, rfl, hb, hs⟩; clear hb
 refine WL.next ?_
 refine WC.seq ?_
 refine WL.p Q0 (Yl.build bt41 Q0 Q4) ?_
 refine WL.r Q0 (Yr.alloc hs zt41) ?_
 clear hs; rintro _ w ⟨b2, rfl, hb, hs⟩; clear hb
 refine WL.s (Yr.storeB hs Q0 Q0 Q0 Q5 Q3 Q0 (by exact szf41)) ?_
 clear hs; rintro _ w hs
 refine WL.next ?_
 refine WC.seq' ?_
 refine WC.seq ?_
 refine Qm ?_
 refine WL.calld hs (T := 137) (b := b_) (c := c) Q2 Q0 (Yc.func Q0 fn98) (c_spec_l1Below c b_ _ _ (hs.cur Q1) (Apart.now hb_c hs)) ?_
 clear hs; intro v w ho hR hs
 obtain ⟨x3, rfl, hokx3, hx3, hf3⟩ := hR
 clear ho hf3
 replace hx3 : 0 ≤ x3 ∧ x3 < 6 := ⟨hx3.1, hx3.2.2 (by decide)⟩
 refine Qa ?_
 refine WL.next ?_
 refine WC.block ?_
 replace hs := Sat.nilsl (α := TEntry) hs
 replace hs := PCache.join (⟨⟨[], none, 0⟩⟩ : PCache) hs
 refine WC.loopC (ι := Int × PCache × List Nat) (fun ⟨m, q, F⟩ => m.toNat) (fun ⟨m, q, F⟩ => [(4, I m)]) (fun ⟨m, q, F⟩ => [box b2 41 [Sl.v q.entries], ow q F]) (fun ⟨m, q, F⟩ => 0 ≤ m ∧ m ≤ 5 ∧ (q.lg.size : Int) ≤ (5 - m) * 2000) [(0, _), (2, _), (3, _)] (_, ⟨⟨[], none, 0⟩⟩, []) (hs.sel (D := [box b2 41 _, ow (⟨⟨[], none, 0⟩⟩ : PCache) []]) Q2) ⟨by rfl, by rfl, by rfl, trivial⟩ ⟨by rfl, trivial⟩ ?_ ?_
 ·
  refine ⟨by omega, by omega, ?_⟩
  simp [PCache.lg, TCache.size, lsz, lsum]; omega
 clear hs; rintro ⟨m, q, F⟩ w ⟨hJ1, hJ2, hJ3⟩ hs
 simp only [List.cons_append, List.nil_append] at hs
 refine WC.seq' ?_
 refine WC.seq ?_
 refine Qm ?_
 refine WL.p Q0 (Yl.gtr Q0 Q0) ?_
 refine WL.next ?_
 refine WC.condS Q0 (fun h1 => ?_) (fun h1 => ?_)
 ·
  replace h1 := of_decide_eq_true h1
  skip
  refine WC.skipn ?_
  refine WC.seq' ?_
  refine WC.block ?_
  refine WC.seq ?_
  refine Qm ?_
  refine WL.calld hs (T := 137) (b := b_) (c := c) Q2 Q0 (Yc.func Q0 fn139) (c_spec_l4Host c b_ _ (hs.cur Q1) (Apart.now hb_c hs)) ?_
  clear hs; intro v w ho hR hs
  obtain ⟨x4, rfl, hokx4, hx4, hf4⟩ := hR
  clear ho hf4
  have hn4 := hosts3_len hx4
  refine Qa ?_
  refine WL.next ?_
  refine WC.seq ?_
  refine Qm ?_
  refine WL.calld hs (T := 137) (b := b_) (c := c) Q2 Q0 (Yc.func Q0 fn117) (c_spec_l4Addr c b_ _ (hs.cur Q1) (Apart.now hb_c hs)) ?_
  clear hs; intro v w ho hR hs
  obtain ⟨x5, rfl, hokx5, hx5, hf5⟩ := hR
  clear ho hf5
  have hn5 := hosts3_len hx5.1; have hm5 := hx5.2
  refine WL.r Q0 (Yr.alloc hs zt43) ?_
  clear hs; rintro _ w ⟨b6, rfl, hb, hs⟩; clear hb
  refine WL.s (Yr.storeB hs Q0 Q0 Q0 Q5 Q3 Q0 (by exact szf43)) ?_
  clear hs; rintro _ w hs
  refine WL.next ?_
  refine WC.any2 (c := box b2 _ _) mixed hs (by repeat (first | exact Ext.here | apply Ext.there)) ?_
  clear hs; intro w hs
  refine WA.p (i := 1) Q0 Q6 Q6 Q6 Q0 (hs.only Q2) (fun w hs => Yl.move Q0) ?_
  refine WA.p (i := 2) Q0 Q6 Q6 Q6 Q0 (hs.only Q2) (fun w hs => Yl.loadAB agg43 Q0 hs Q1 Q0 Q0) ?_
  refine WA.p (i := 3) Q0 Q6 Q6 Q6 Q0 (hs.only Q2) (fun w hs => Yl.move Q0) ?_
  refine WA.p (i := 4) Q0 Q6 Q6 Q6 Q0 (hs.only Q2) (fun w hs => Yl.move Q0) ?_
  refine WA.p (i := 8) Q0 Q6 Q6 Q6 Q0 (hs.only Q2) (fun w hs => Yl.move Q0) ?_
  refine WA.two (i := 0) (j := 5) Q6 ?_ ?_
  ·
   refine WI.r (i := 0) Q0 Q0 (Yl.yr (Yl.loadAB agg41 Q0 hs Q1 Q0 Q0)) (by rintro _ _ ⟨rfl, rfl⟩; exact hs.only Q2) ?_
   rintro _ _ ⟨rfl, rfl⟩
   refine WA.calld (i := 5) hs (T := 137) (b := b_) (c := c) Q2 (fun _ hs => hs.only Q2) Q6 Q0 Q0 (Yc.func Q0 fn98) (c_spec_l1Below c b_ _ _ (hs.cur Q1) (Apart.now hb_c hs)) ?_
   clear hs; intro v w ho hR hs
   obtain ⟨x7, rfl, hokx7, hx7, hf7⟩ := hR
   clear ho hf7
   replace hx7 : 0 ≤ x7 ∧ x7 < 5 := ⟨hx7.1, hx7.2.2 (by decide)⟩
   refine WA.p (i := 6) Q0 Q6 Q6 Q6 Q0 (hs.only Q2) (fun w hs => Yl.add Q0 Q0 Q7) ?_
   refine WA.calld (i := 7) hs (T := 137) (b := b_) (c := c) Q2 (fun _ hs => hs.only Q2) Q6 Q0 Q0 (Yc.func Q0 fn118) (c_spec_l10Response c b_ _ _ (show WfI _ from ⟨by omega, by omega⟩) (hs.cur Q1) (Apart.now hb_c hs)) ?_
   clear hs; intro v w ho hR hs
   obtain ⟨x8, rfl, hokx8, hx8, hf8⟩ := hR
   clear ho hf8
   have hn8 := hx8.1
   refine WA.calld (i := 9) hs (T := 137) (b := b_) (c := c) Q2 (fun _ hs => hs.only Q2) Q6 Q0 Q0 (Yc.func Q0 fn98) (c_spec_l1Below c b_ _ _ (hs.cur Q1) (Apart.now hb_c hs)) ?_
   clear hs; intro v w ho hR hs
   obtain ⟨x9, rfl, hokx9, hx9, hf9⟩ := hR
   clear ho hf9
   replace hx9 : 0 ≤ x9 ∧ x9 < 9 := ⟨hx9.1, hx9.2.2 (by decide)⟩
   refine WA.call2 (i := 10) hs (fun _ hs => hs.only Q2) Q6 Q0 Q0 (Yc.func Q0 fn23) (c_spec_StoreEntry _ _ _ _ _ _ ⟨(hs.okow (x := q) (F := F) Q1).entries⟩ (Flat.any hokx4) (Flat.any hokx5) (Flat.any hokx8) (Flat.any hokx9) Q7 (by simp only [TResponse.size] at *; omega)) ?_
   have hs0 := hs; clear hs; intro v w hb hR hs; clear hs
   obtain ⟨x10, rfl, hx10, hf10⟩ := hR
   obtain ⟨F10, hs⟩ := hf10.sat hs0 hb; clear hs0 hf10
   have hz10 := storeEntry_size_of hx10; simp only [TAddr.size, List.length_cons, List.length_nil] at hz10
   refine WA.s (i := 11) Q6 Q0 (Yr.storeB hs Q0 Q0 Q0 Q5 Q3 Q0 (by exact szf41)) (by rintro _ w hs; exact hs.only Q2) ?_
   clear hs; rintro _ w hs
   refine WA.done Q6 ?_
   refine At.blocknormal ?_
   refine At.then_ ?_
   refine WC.region ?_
   refine Qm ?_
   refine WL.p Q0 (Yl.sub_ Q0 Q0 Q7) ?_
   refine Qa ?_
   refine WL.nil ?_
   refine At.roundC (_, x10, _) (hs.only Q2) ⟨by rfl, by rfl, by rfl, trivial⟩ ⟨by rfl, trivial⟩ ?_ ?_
   ·
    show (m - 1).toNat < m.toNat
    omega
   ·
    refine ⟨by omega, by omega, ?_⟩
    omega
  ·
   refine WI.calld (i := 5) hs (T := 137) (b := b_) (c := c) Q2 (fun _ hs => hs.only Q2) Q0 Q0 (Yc.func Q0 fn98) (c_spec_l1Below c b_ _ _ (hs.cur Q1) (Apart.now hb_c hs)) ?_
   clear hs; intro v w ho hR hs
   obtain ⟨x11, rfl, hokx11, hx11, hf11⟩ := hR
   clear ho hf11
   replace hx11 : 0 ≤ x11 ∧ x11 < 5 := ⟨hx11.1, hx11.2.2 (by decide)⟩
   refine WA.p (i := 6) Q0 Q6 Q6 Q6 Q0 (hs.only Q2) (fun w hs => Yl.add Q0 Q0 Q7) ?_
   refine WA.two (i := 0) (j := 7) Q6 ?_ ?_
   ·
    refine WI.r (i := 0) Q0 Q0 (Yl.yr (Yl.loadAB agg41 Q0 hs Q1 Q0 Q0)) (by rintro _ _ ⟨rfl, rfl⟩; exact hs.only Q2) ?_
    rintro _ _ ⟨rfl, rfl⟩
    refine WA.calld (i := 7) hs (T := 137) (b := b_) (c := c) Q2 (fun _ hs => hs.only Q2) Q6 Q0 Q0 (Yc.func Q0 fn118) (c_spec_l10Response c b_ _ _ (show WfI _ from ⟨by omega, by omega⟩) (hs.cur Q1) (Apart.now hb_c hs)) ?_
    clear hs; intro v w ho hR hs
    obtain ⟨x12, rfl, hokx12, hx12, hf12⟩ := hR
    clear ho hf12
    have hn12 := hx12.1
    refine WA.calld (i := 9) hs (T := 137) (b := b_) (c := c) Q2 (fun _ hs => hs.only Q2) Q6 Q0 Q0 (Yc.func Q0 fn98) (c_spec_l1Below c b_ _ _ (hs.cur Q1) (Apart.now hb_c hs)) ?_
    clear hs; intro v w ho hR hs
    obtain ⟨x13, rfl, hokx13, hx13, hf13⟩ := hR
    clear ho hf13
    replace hx13 : 0 ≤ x13 ∧ x13 < 9 := ⟨hx13.1, hx13.2.2 (by decide)⟩
    refine WA.call2 (i := 10) hs (fun _ hs => hs.only Q2) Q6 Q0 Q0 (Yc.func Q0 fn23) (c_spec_StoreEntry _ _ _ _ _ _ ⟨(hs.okow (x := q) (F := F) Q1).entries⟩ (Flat.any hokx4) (Flat.any hokx5) (Flat.any hokx12) (Flat.any hokx13) Q7 (by simp only [TResponse.size] at *; omega)) ?_
    have hs0 := hs; clear hs; intro v w hb hR hs; clear hs
    obtain ⟨x14, rfl, hx14, hf14⟩ := hR
    obtain ⟨F14, hs⟩ := hf14.sat hs0 hb; clear hs0 hf14
    have hz14 := storeEntry_size_of hx14; simp only [TAddr.size, List.length_cons, List.length_nil] at hz14
    refine WA.s (i := 11) Q6 Q0 (Yr.storeB hs Q0 Q0 Q0 Q5 Q3 Q0 (by exact szf41)) (by rintro _ w hs; exact hs.only Q2) ?_
    clear hs; rintro _ w hs
    refine WA.done Q6 ?_
    refine At.blocknormal ?_
    refine At.then_ ?_
    refine WC.region ?_
    refine Qm ?_
    refine WL.p Q0 (Yl.sub_ Q0 Q0 Q7) ?_
    refine Qa ?_
    refine WL.nil ?_
    refine At.roundC (_, x14, _) (hs.only Q2) ⟨by rfl, by rfl, by rfl, trivial⟩ ⟨by rfl, trivial⟩ ?_ ?_
    ·
     show (m - 1).toNat < m.toNat
     omega
    ·
     refine ⟨by omega, by omega, ?_⟩
     omega
   ·
    refine WI.calld (i := 7) hs (T := 137) (b := b_) (c := c) Q2 (fun _ hs => hs.only Q2) Q0 Q0 (Yc.func Q0 fn118) (c_spec_l10Response c b_ _ _ (show WfI _ from ⟨by omega, by omega⟩) (hs.cur Q1) (Apart.now hb_c hs)) ?_
    clear hs; intro v w ho hR hs
    obtain ⟨x15, rfl, hokx15, hx15, hf15⟩ := hR
    clear ho hf15
    have hn15 := hx15.1
    refine WA.two (i := 0) (j := 9) Q6 ?_ ?_
    ·
     refine WI.r (i := 0) Q0 Q0 (Yl.yr (Yl.loadAB agg41 Q0 hs Q1 Q0 Q0)) (by rintro _ _ ⟨rfl, rfl⟩; exact hs.only Q2) ?_
     rintro _ _ ⟨rfl, rfl⟩
     refine WA.calld (i := 9) hs (T := 137) (b := b_) (c := c) Q2 (fun _ hs => hs.only Q2) Q6 Q0 Q0 (Yc.func Q0 fn98) (c_spec_l1Below c b_ _ _ (hs.cur Q1) (Apart.now hb_c hs)) ?_
     clear hs; intro v w ho hR hs
     obtain ⟨x16, rfl, hokx16, hx16, hf16⟩ := hR
     clear ho hf16
     replace hx16 : 0 ≤ x16 ∧ x16 < 9 := ⟨hx16.1, hx16.2.2 (by decide)⟩
     refine WA.call2 (i := 10) hs (fun _ hs => hs.only Q2) Q6 Q0 Q0 (Yc.func Q0 fn23) (c_spec_StoreEntry _ _ _ _ _ _ ⟨(hs.okow (x := q) (F := F) Q1).entries⟩ (Flat.any hokx4) (Flat.any hokx5) (Flat.any hokx15) (Flat.any hokx16) Q7 (by simp only [TResponse.size] at *; omega)) ?_
     have hs0 := hs; clear hs; intro v w hb hR hs; clear hs
     obtain ⟨x17, rfl, hx17, hf17⟩ := hR
     obtain ⟨F17, hs⟩ := hf17.sat hs0 hb; clear hs0 hf17
     have hz17 := storeEntry_size_of hx17; simp only [TAddr.size, List.length_cons, List.length_nil] at hz17
     refine WA.s (i := 11) Q6 Q0 (Yr.storeB hs Q0 Q0 Q0 Q5 Q3 Q0 (by exact szf41)) (by rintro _ w hs; exact hs.only Q2) ?_
     clear hs; rintro _ w hs
     refine WA.done Q6 ?_
     refine At.blocknormal ?_
     refine At.then_ ?_
     refine WC.region ?_
     refine Qm ?_
     refine WL.p Q0 (Yl.sub_ Q0 Q0 Q7) ?_
     refine Qa ?_
     refine WL.nil ?_
     refine At.roundC (_, x17, _) (hs.only Q2) ⟨by rfl, by rfl, by rfl, trivial⟩ ⟨by rfl, trivial⟩ ?_ ?_
     ·
      show (m - 1).toNat < m.toNat
      omega
     ·
      refine ⟨by omega, by omega, ?_⟩
      omega
    ·
     refine WI.calld (i := 9) hs (T := 137) (b := b_) (c := c) Q2 (fun _ hs => hs.only Q2) Q0 Q0 (Yc.func Q0 fn98) (c_spec_l1Below c b_ _ _ (hs.cur Q1) (Apart.now hb_c hs)) ?_
     clear hs; intro v w ho hR hs
     obtain ⟨x18, rfl, hokx18, hx18, hf18⟩ := hR
     clear ho hf18
     replace hx18 : 0 ≤ x18 ∧ x18 < 9 := ⟨hx18.1, hx18.2.2 (by decide)⟩
     refine WA.r (i := 0) Q6 Q0 Q0 (Yl.yr (Yl.loadAB agg41 Q0 hs Q1 Q0 Q0)) (by rintro _ _ ⟨rfl, rfl⟩; exact hs.only Q2) ?_
     rintro _ _ ⟨rfl, rfl⟩
     refine WA.call2 (i := 10) hs (fun _ hs => hs.only Q2) Q6 Q0 Q0 (Yc.func Q0 fn23) (c_spec_StoreEntry _ _ _ _ _ _ ⟨(hs.okow (x := q) (F := F) Q1).entries⟩ (Flat.any hokx4) (Flat.any hokx5) (Flat.any hokx15) (Flat.any hokx18) Q7 (by simp only [TResponse.size] at *; omega)) ?_
     have hs0 := hs; clear hs; intro v w hb hR hs; clear hs
     obtain ⟨x19, rfl, hx19, hf19⟩ := hR
     obtain ⟨F19, hs⟩ := hf19.sat hs0 hb; clear hs0 hf19
     have hz19 := storeEntry_size_of hx19; simp only [TAddr.size, List.length_cons, List.length_nil] at hz19
     refine WA.s (i := 11) Q6 Q0 (Yr.storeB hs Q0 Q0 Q0 Q5 Q3 Q0 (by exact szf41)) (by rintro _ w hs; exact hs.only Q2) ?_
     clear hs; rintro _ w hs
     refine WA.done Q6 ?_
     refine At.blocknormal ?_
     refine At.then_ ?_
     refine WC.region ?_
     refine Qm ?_
     refine WL.p Q0 (Yl.sub_ Q0 Q0 Q7) ?_
     refine Qa ?_
     refine WL.nil ?_
     refine At.roundC (_, x19, _) (hs.only Q2) ⟨by rfl, by rfl, by rfl, trivial⟩ ⟨by rfl, trivial⟩ ?_ ?_
     ·
      show (m - 1).toNat < m.toNat
      omega
     ·
      refine ⟨by omega, by omega, ?_⟩
      omega
 ·
  replace h1 := of_decide_eq_false h1
  refine WC.exit ?_
  refine At.thenexit ?_
  refine At.thenexit ?_
  refine At.blockexit ?_
  refine At.then_ ?_
  refine WC.seq ?_
  refine WL.p Q0 (Yl.loadAB agg41 Q0 hs Q1 Q0 Q0) ?_
  refine WL.s (Yr.storeB hs Q0 Q0 Q0 Q5 Q3 Q0 (by exact szf41)) ?_
  clear hs; rintro _ w hs
  refine WL.next ?_
  refine WC.ret ?_
  refine fin1c rfl agg41 Q0 hs Q1 Q0 ?_
  refine RetD.mk hs Q1 ?_
  refine ⟨q, rfl, trivial, ?_, ?_⟩
  ·
   repeat' apply And.intro
   all_goals (try dsimp only)
   all_goals first | trivial | assumption | omega | ((try simp only [List.length_append, List.length_cons, List.length_nil, lsz_app, lsz_one, lsz_cons, lsz_nil, TAddr.size, TResponse.size, TRequest.size, TPolicy.size, TEntry.size, TCache.size, strsz, TServer.size, TFile.size, List.map_append, List.map_cons, List.map_nil, PServer.lg, PPolicy.lg, PCache.lg] at *); first | omega | assumption)
  ·
   exact hs.freshD (x := q) (F := F) Q2

set_option maxRecDepth 20000 in
theorem c_spec_l13Any (c : Nat) (b_ : Sl UInt8) (w : World)   (h_c : CurAt 137 b_ c w) (hb_c : CurB w b_ c) : Calls Tryd.prog 67 [bp c 0].toArray w (RetD 137 b_ c w (fun v w' => ∃ (x : PCache), v = .agg (Ph.enc x).toArray ∧ (True) ∧ (x.lg.size ≤ 20000) ∧ Fresh w x w')) := by
 refine enterN 49 Tryd.func67 rfl rfl rfl ?_
 have hs := Sat.startC h_c
 refine WC.seq ?_
 refine WL.r Q0 (Yr.alloc hs zt41) ?_
 clear hs; rintro _ w ⟨b1, rfl, hb, hs⟩; clear hb
 refine WL.next ?_
 refine WC.seq ?_
 refine Qm ?_
 refine WL.calld hs (T := 137) (b := b_) (c := c) Q2 Q0 (Yc.func Q0 fn116) (c_spec_l13Cache c b_ _ (hs.cur Q1) (Apart.now hb_c hs)) ?_
 clear hs; intro v w ho hR hs
 obtain ⟨x2, rfl, _, hx2, hf2⟩ := hR
 obtain ⟨F2, hs⟩ := hs.addF ho hf2
 clear ho hf2
 obtain ⟨K3_0, hfl3, hs⟩ := PCache.split (hs.sel (D := [ow x2 F2]) Q2)
 try simp only [List.cons_append, List.nil_append] at hs
 refine WL.r Q0 (Yr.alloc hs zt41) ?_
 clear hs; rintro _ w ⟨b4, rfl, hb, hs⟩; clear hb
 refine WL.s (Yr.storeB hs Q0 Q0 Q0 Q5 Q3 Q0 (by exact szf41)) ?_
 clear hs; rintro _ w hs
 refine WL.next ?_
 refine WC.seq' ?_
 refine WC.seq ?_
 refine Qm ?_
 refine WL.calld hs (T := 137) (b := b_) (c := c) Q2 Q0 (Yc.func Q0 fn98) (c_spec_l1Below c b_ _ _ (hs.cur Q1) (Apart.now hb_c hs)) ?_
 clear hs; intro v w ho hR hs
 obtain ⟨x5, rfl, hokx5, hx5, hf5⟩ := hR
 clear ho hf5
 replace hx5 : 0 ≤ x5 ∧ x5 < 12 := ⟨hx5.1, hx5.2.2 (by decide)⟩
 refine WL.next ?_
 refine WC.block ?_
 refine WC.seq ?_
 refine WL.p Q0 (Yl.eqi Q0 Q0) ?_
 refine Qa ?_
 refine WL.next ?_
 refine WC.condS Q0 (fun h1 => ?_) (fun h1 => ?_)
 ·
  replace h1 := of_decide_eq_true h1
  refine WC.anyX (K := [box b4 _ _, ow x2.entries K3_0]) mixed hs Q2 ?_
  clear hs; intro w hs
  refine WA.p (i := 0) Q0 Q6 Q6 Q6 Q0 (hs.only Q2) (fun w hs => Yl.fieldAddr fa41_0 Q0) ?_
  refine WA.p (i := 2) Q0 Q6 Q6 Q6 Q0 (hs.only Q2) (fun w hs => Yl.move Q0) ?_
  refine WA.p (i := 5) Q0 Q6 Q6 Q6 Q0 (hs.only Q2) (fun w hs => Yl.move Q0) ?_
  refine WA.p (i := 7) Q0 Q6 Q6 Q6 Q0 (hs.only Q2) (fun w hs => Yl.move Q0) ?_
  refine WA.two (i := 1) (j := 3) Q6 ?_ ?_
  ·
   refine WI.r (i := 1) Q0 Q0 (Yl.yr (Yl.loadB sca39 Q0 hs Q1 Q0)) (by rintro _ _ ⟨rfl, rfl⟩; exact hs.only Q2) ?_
   rintro _ _ ⟨rfl, rfl⟩
   refine WA.r (i := 3) Q6 Q0 Q0 (Yr.buildSlice hs sll24 Q0 Q0 Q0 Q4 Q0) (by rintro _ w ⟨b6, rfl, hb, hs⟩; exact hs.only Q2) ?_
   clear hs; rintro _ w ⟨b6, rfl, hb, hs⟩; clear hb
   replace hs := Sat.boxow (l := ([([104, 111, 109, 101] : Str), ([] : Str)] : List Str)) (hs.sel (D := [box b6 _ _]) Q2) rfl rfl (by decide) (ownL_mk_flat (lit_str Q0))
   try simp only [List.cons_append, List.nil_append] at hs
   refine WA.calld (i := 4) hs (T := 137) (b := b_) (c := c) Q2 (fun _ hs => hs.only Q2) Q6 Q0 Q0 (Yc.func Q0 fn61) (c_spec_l1Str c b_ (⟨[([104, 111, 109, 101] : Str), ([] : Str)], some ⟨b6, 0, none⟩, 2⟩ : Sl Str) _ (Apart.own (s := (⟨[([104, 111, 109, 101] : Str), ([] : Str)], some ⟨b6, 0, none⟩, 2⟩ : Sl Str)) (F := [b6]) hs Q2) (by exact Nat.succ_pos _) (hs.cur Q1) (Apart.now hb_c hs)) ?_
   clear hs; intro v w ho hR hs
   obtain ⟨x7, rfl, hokx7, hx7, hf7⟩ := hR
   clear ho hf7
   replace hx7 : x7 ∈ ([([104, 111, 109, 101] : Str), ([] : Str)] : List Str) := hx7
   have hn7 := mem_len 4 hx7 Q0
   refine WA.calld (i := 6) hs (T := 137) (b := b_) (c := c) Q2 (fun _ hs => hs.only Q2) Q6 Q0 Q0 (Yc.func Q0 fn68) (c_spec_l4Any c b_ _ (hs.cur Q1) (Apart.now hb_c hs)) ?_
   clear hs; intro v w ho hR hs
   obtain ⟨x8, rfl, hokx8, hx8, hf8⟩ := hR
   clear ho hf8
   have hn8 := hx8.1; have hm8 := hx8.2
   refine WA.calld (i := 8) hs (T := 137) (b := b_) (c := c) Q2 (fun _ hs => hs.only Q2) Q6 Q0 Q0 (Yc.func Q0 fn69) (c_spec_l10Any c b_ _ (hs.cur Q1) (Apart.now hb_c hs)) ?_
   clear hs; intro v w ho hR hs
   obtain ⟨x9, rfl, hokx9, hx9, hf9⟩ := hR
   clear ho hf9
   refine WA.p (i := 9) Q0 Q6 Q6 Q6 Q0 (hs.only Q2) (fun w hs => Yl.build bt99 Q0 Q4) ?_
   refine WA.r (i := 10) Q6 Q0 Q0 (Yr.buildSlice hs sll39 Q0 Q0 Q0 Q4 Q0) (by rintro _ w ⟨b10, rfl, hb, hs⟩; exact hs.only Q2) ?_
   clear hs; rintro _ w ⟨b10, rfl, hb, hs⟩; clear hb
   refine WA.r (i := 11) Q6 Q0 Q0 (Yr.append (s := x2.entries) (F := K3_0) hs elt39 Q2 Q0 Q0 rfl (xs := [(⟨x7, (⟨x8.host, x8.path⟩ : TAddr), (⟨x9.status, x9.kind, x9.body, x9.age, x9.shares, x9.policy⟩ : TResponse), 0⟩ : TEntry)]) (hs.box_cells Q1) (by intro x hx; obtain rfl := List.mem_singleton.1 hx; exact ⟨(by first | exact (Flat.any hokx7) | trivial | assumption | exact Flat.any (by assumption) | exact ⟨by omega, by omega⟩ | (show WfS _; unfold WfS; omega) | (show WfS _; unfold WfS; simp only [List.length_append, List.length_cons, List.length_nil] at *; omega) | (refine Ph.old ?_ hs; assumption)), ⟨(by first | exact (Flat.any hokx8).host | trivial | assumption | exact Flat.any (by assumption) | exact ⟨by omega, by omega⟩ | (show WfS _; unfold WfS; omega) | (show WfS _; unfold WfS; simp only [List.length_append, List.length_cons, List.length_nil] at *; omega) | (refine Ph.old ?_ hs; assumption)), (by first | exact (Flat.any hokx8).path | trivial | assumption | exact Flat.any (by assumption) | exact ⟨by omega, by omega⟩ | (show WfS _; unfold WfS; omega) | (show WfS _; unfold WfS; simp only [List.length_append, List.length_cons, List.length_nil] at *; omega) | (refine Ph.old ?_ hs; assumption))⟩, ⟨(by first | exact (Flat.any hokx9).status | trivial | assumption | exact Flat.any (by assumption) | exact ⟨by omega, by omega⟩ | (show WfS _; unfold WfS; omega) | (show WfS _; unfold WfS; simp only [List.length_append, List.length_cons, List.length_nil] at *; omega) | (refine Ph.old ?_ hs; assumption)), (by first | exact (Flat.any hokx9).kind | trivial | assumption | exact Flat.any (by assumption) | exact ⟨by omega, by omega⟩ | (show WfS _; unfold WfS; omega) | (show WfS _; unfold WfS; simp only [List.length_append, List.length_cons, List.length_nil] at *; omega) | (refine Ph.old ?_ hs; assumption)), (by first | exact (Flat.any hokx9).body | trivial | assumption | exact Flat.any (by assumption) | exact ⟨by omega, by omega⟩ | (show WfS _; unfold WfS; omega) | (show WfS _; unfold WfS; simp only [List.length_append, List.length_cons, List.length_nil] at *; omega) | (refine Ph.old ?_ hs; assumption)), (by first | exact (Flat.any hokx9).age | trivial | assumption | exact Flat.any (by assumption) | exact ⟨by omega, by omega⟩ | (show WfS _; unfold WfS; omega) | (show WfS _; unfold WfS; simp only [List.length_append, List.length_cons, List.length_nil] at *; omega) | (refine Ph.old ?_ hs; assumption)), (by first | exact (Flat.any hokx9).shares | trivial | assumption | exact Flat.any (by assumption) | exact ⟨by omega, by omega⟩ | (show WfS _; unfold WfS; omega) | (show WfS _; unfold WfS; simp only [List.length_append, List.length_cons, List.length_nil] at *; omega) | (refine Ph.old ?_ hs; assumption)), (by first | exact (Flat.any hokx9).policy | trivial | assumption | exact Flat.any (by assumption) | exact ⟨by omega, by omega⟩ | (show WfS _; unfold WfS; omega) | (show WfS _; unfold WfS; simp only [List.length_append, List.length_cons, List.length_nil] at *; omega) | (refine Ph.old ?_ hs; assumption))⟩, (by first | exact (show WfI 0 from ⟨by omega, by omega⟩) | trivial | assumption | exact Flat.any (by assumption) | exact ⟨by omega, by omega⟩ | (show WfS _; unfold WfS; omega) | (show WfS _; unfold WfS; simp only [List.length_append, List.length_cons, List.length_nil] at *; omega) | (refine Ph.old ?_ hs; assumption))⟩) (by first | (unfold maxLen; omega) | omega | ((try simp only [lsz, strsz, List.length_map, PCache.lg, TCache.size, PPolicy.lg, TPolicy.size, List.length_cons, List.length_nil] at *); first | (unfold maxLen; omega) | omega)) (by first | (unfold maxLen; omega) | omega | ((try simp only [lsz, strsz, List.length_map, PCache.lg, TCache.size, PPolicy.lg, TPolicy.size, List.length_cons, List.length_nil] at *); first | (unfold maxLen; omega) | omega))) (by rintro _ w ⟨s11, F11, rfl, hl11, hs⟩; exact hs.only Q2) ?_
   clear hs; rintro _ w ⟨s11, F11, rfl, hl11, hs⟩
   refine WA.p (i := 12) Q0 Q6 Q6 Q6 Q0 (hs.only Q2) (fun w hs => Yl.fieldAddr fa41_0 Q0) ?_
   refine WA.s (i := 13) Q6 Q0 (Yr.storeB hs Q0 Q0 Q0 Q5 Q3 Q0 (by exact szf39)) (by rintro _ w hs; exact hs.only Q2) ?_
   clear hs; rintro _ w hs
   refine WA.done Q6 ?_
   refine At.blocknormal ?_
   refine At.then_ ?_
   refine WC.seq ?_
   refine WL.p Q0 (Yl.loadAB agg41 Q0 hs Q1 Q0 Q0) ?_
   refine WL.s (Yr.storeB hs Q0 Q0 Q0 Q5 Q3 Q0 (by exact szf41)) ?_
   clear hs; rintro _ w hs
   refine WL.next ?_
   refine WC.ret ?_
   refine fin1c rfl agg41 Q0 hs Q1 Q0 ?_
   obtain ⟨Fj12, hs⟩ : ∃ F, Sat _ _ _ (ow (⟨s11⟩ : PCache) F :: _) := ⟨_, PCache.join (⟨s11⟩ : PCache) (hs.sel (D := [ow s11 F11]) Q2) ⟩
   try simp only [List.cons_append, List.nil_append] at hs
   refine RetD.mk hs Q1 ?_
   refine ⟨(⟨s11⟩ : PCache), rfl, trivial, ?_, ?_⟩
   ·
    repeat' apply And.intro
    all_goals (try dsimp only)
    all_goals first | trivial | assumption | omega | ((try simp only [List.length_append, List.length_cons, List.length_nil, lsz_app, lsz_one, lsz_cons, lsz_nil, TAddr.size, TResponse.size, TRequest.size, TPolicy.size, TEntry.size, TCache.size, strsz, TServer.size, TFile.size, List.map_append, List.map_cons, List.map_nil, PServer.lg, PPolicy.lg, PCache.lg, hl11] at *); first | omega | assumption)
   ·
    exact hs.freshD (x := (⟨s11⟩ : PCache)) (F := Fj12) Q2
  ·
   refine WI.r (i := 3) Q0 Q0 (Yr.buildSlice hs sll24 Q0 Q0 Q0 Q4 Q0) (by rintro _ w ⟨b13, rfl, hb, hs⟩; exact hs.only Q2) ?_
   clear hs; rintro _ w ⟨b13, rfl, hb, hs⟩; clear hb
   refine WA.two (i := 1) (j := 4) Q6 ?_ ?_
   ·
    refine WI.r (i := 1) Q0 Q0 (Yl.yr (Yl.loadB sca39 Q0 hs Q1 Q0)) (by rintro _ _ ⟨rfl, rfl⟩; exact hs.only Q2) ?_
    rintro _ _ ⟨rfl, rfl⟩
    replace hs := Sat.boxow (l := ([([104, 111, 109, 101] : Str), ([] : Str)] : List Str)) (hs.sel (D := [box b13 _ _]) Q2) rfl rfl (by decide) (ownL_mk_flat (lit_str Q0))
    try simp only [List.cons_append, List.nil_append] at hs
    refine WA.calld (i := 4) hs (T := 137) (b := b_) (c := c) Q2 (fun _ hs => hs.only Q2) Q6 Q0 Q0 (Yc.func Q0 fn61) (c_spec_l1Str c b_ (⟨[([104, 111, 109, 101] : Str), ([] : Str)], some ⟨b13, 0, none⟩, 2⟩ : Sl Str) _ (Apart.own (s := (⟨[([104, 111, 109, 101] : Str), ([] : Str)], some ⟨b13, 0, none⟩, 2⟩ : Sl Str)) (F := [b13]) hs Q2) (by exact Nat.succ_pos _) (hs.cur Q1) (Apart.now hb_c hs)) ?_
    clear hs; intro v w ho hR hs
    obtain ⟨x14, rfl, hokx14, hx14, hf14⟩ := hR
    clear ho hf14
    replace hx14 : x14 ∈ ([([104, 111, 109, 101] : Str), ([] : Str)] : List Str) := hx14
    have hn14 := mem_len 4 hx14 Q0
    refine WA.calld (i := 6) hs (T := 137) (b := b_) (c := c) Q2 (fun _ hs => hs.only Q2) Q6 Q0 Q0 (Yc.func Q0 fn68) (c_spec_l4Any c b_ _ (hs.cur Q1) (Apart.now hb_c hs)) ?_
    clear hs; intro v w ho hR hs
    obtain ⟨x15, rfl, hokx15, hx15, hf15⟩ := hR
    clear ho hf15
    have hn15 := hx15.1; have hm15 := hx15.2
    refine WA.calld (i := 8) hs (T := 137) (b := b_) (c := c) Q2 (fun _ hs => hs.only Q2) Q6 Q0 Q0 (Yc.func Q0 fn69) (c_spec_l10Any c b_ _ (hs.cur Q1) (Apart.now hb_c hs)) ?_
    clear hs; intro v w ho hR hs
    obtain ⟨x16, rfl, hokx16, hx16, hf16⟩ := hR
    clear ho hf16
    refine WA.p (i := 9) Q0 Q6 Q6 Q6 Q0 (hs.only Q2) (fun w hs => Yl.build bt99 Q0 Q4) ?_
    refine WA.r (i := 10) Q6 Q0 Q0 (Yr.buildSlice hs sll39 Q0 Q0 Q0 Q4 Q0) (by rintro _ w ⟨b17, rfl, hb, hs⟩; exact hs.only Q2) ?_
    clear hs; rintro _ w ⟨b17, rfl, hb, hs⟩; clear hb
    refine WA.r (i := 11) Q6 Q0 Q0 (Yr.append (s := x2.entries) (F := K3_0) hs elt39 Q2 Q0 Q0 rfl (xs := [(⟨x14, (⟨x15.host, x15.path⟩ : TAddr), (⟨x16.status, x16.kind, x16.body, x16.age, x16.shares, x16.policy⟩ : TResponse), 0⟩ : TEntry)]) (hs.box_cells Q1) (by intro x hx; obtain rfl := List.mem_singleton.1 hx; exact ⟨(by first | exact (Flat.any hokx14) | trivial | assumption | exact Flat.any (by assumption) | exact ⟨by omega, by omega⟩ | (show WfS _; unfold WfS; omega) | (show WfS _; unfold WfS; simp only [List.length_append, List.length_cons, List.length_nil] at *; omega) | (refine Ph.old ?_ hs; assumption)), ⟨(by first | exact (Flat.any hokx15).host | trivial | assumption | exact Flat.any (by assumption) | exact ⟨by omega, by omega⟩ | (show WfS _; unfold WfS; omega) | (show WfS _; unfold WfS; simp only [List.length_append, List.length_cons, List.length_nil] at *; omega) | (refine Ph.old ?_ hs; assumption)), (by first | exact (Flat.any hokx15).path | trivial | assumption | exact Flat.any (by assumption) | exact ⟨by omega, by omega⟩ | (show WfS _; unfold WfS; omega) | (show WfS _; unfold WfS; simp only [List.length_append, List.length_cons, List.length_nil] at *; omega) | (refine Ph.old ?_ hs; assumption))⟩, ⟨(by first | exact (Flat.any hokx16).status | trivial | assumption | exact Flat.any (by assumption) | exact ⟨by omega, by omega⟩ | (show WfS _; unfold WfS; omega) | (show WfS _; unfold WfS; simp only [List.length_append, List.length_cons, List.length_nil] at *; omega) | (refine Ph.old ?_ hs; assumption)), (by first | exact (Flat.any hokx16).kind | trivial | assumption | exact Flat.any (by assumption) | exact ⟨by omega, by omega⟩ | (show WfS _; unfold WfS; omega) | (show WfS _; unfold WfS; simp only [List.length_append, List.length_cons, List.length_nil] at *; omega) | (refine Ph.old ?_ hs; assumption)), (by first | exact (Flat.any hokx16).body | trivial | assumption | exact Flat.any (by assumption) | exact ⟨by omega, by omega⟩ | (show WfS _; unfold WfS; omega) | (show WfS _; unfold WfS; simp only [List.length_append, List.length_cons, List.length_nil] at *; omega) | (refine Ph.old ?_ hs; assumption)), (by first | exact (Flat.any hokx16).age | trivial | assumption | exact Flat.any (by assumption) | exact ⟨by omega, by omega⟩ | (show WfS _; unfold WfS; omega) | (show WfS _; unfold WfS; simp only [List.length_append, List.length_cons, List.length_nil] at *; omega) | (refine Ph.old ?_ hs; assumption)), (by first | exact (Flat.any hokx16).shares | trivial | assumption | exact Flat.any (by assumption) | exact ⟨by omega, by omega⟩ | (show WfS _; unfold WfS; omega) | (show WfS _; unfold WfS; simp only [List.length_append, List.length_cons, List.length_nil] at *; omega) | (refine Ph.old ?_ hs; assumption)), (by first | exact (Flat.any hokx16).policy | trivial | assumption | exact Flat.any (by assumption) | exact ⟨by omega, by omega⟩ | (show WfS _; unfold WfS; omega) | (show WfS _; unfold WfS; simp only [List.length_append, List.length_cons, List.length_nil] at *; omega) | (refine Ph.old ?_ hs; assumption))⟩, (by first | exact (show WfI 0 from ⟨by omega, by omega⟩) | trivial | assumption | exact Flat.any (by assumption) | exact ⟨by omega, by omega⟩ | (show WfS _; unfold WfS; omega) | (show WfS _; unfold WfS; simp only [List.length_append, List.length_cons, List.length_nil] at *; omega) | (refine Ph.old ?_ hs; assumption))⟩) (by first | (unfold maxLen; omega) | omega | ((try simp only [lsz, strsz, List.length_map, PCache.lg, TCache.size, PPolicy.lg, TPolicy.size, List.length_cons, List.length_nil] at *); first | (unfold maxLen; omega) | omega)) (by first | (unfold maxLen; omega) | omega | ((try simp only [lsz, strsz, List.length_map, PCache.lg, TCache.size, PPolicy.lg, TPolicy.size, List.length_cons, List.length_nil] at *); first | (unfold maxLen; omega) | omega))) (by rintro _ w ⟨s18, F18, rfl, hl18, hs⟩; exact hs.only Q2) ?_
    clear hs; rintro _ w ⟨s18, F18, rfl, hl18, hs⟩
    refine WA.p (i := 12) Q0 Q6 Q6 Q6 Q0 (hs.only Q2) (fun w hs => Yl.fieldAddr fa41_0 Q0) ?_
    refine WA.s (i := 13) Q6 Q0 (Yr.storeB hs Q0 Q0 Q0 Q5 Q3 Q0 (by exact szf39)) (by rintro _ w hs; exact hs.only Q2) ?_
    clear hs; rintro _ w hs
    refine WA.done Q6 ?_
    refine At.blocknormal ?_
    refine At.then_ ?_
    refine WC.seq ?_
    refine WL.p Q0 (Yl.loadAB agg41 Q0 hs Q1 Q0 Q0) ?_
    refine WL.s (Yr.storeB hs Q0 Q0 Q0 Q5 Q3 Q0 (by exact szf41)) ?_
    clear hs; rintro _ w hs
    refine WL.next ?_
    refine WC.ret ?_
    refine fin1c rfl agg41 Q0 hs Q1 Q0 ?_
    obtain ⟨Fj19, hs⟩ : ∃ F, Sat _ _ _ (ow (⟨s18⟩ : PCache) F :: _) := ⟨_, PCache.join (⟨s18⟩ : PCache) (hs.sel (D := [ow s18 F18]) Q2) ⟩
    try simp only [List.cons_append, List.nil_append] at hs
    refine RetD.mk hs Q1 ?_
    refine ⟨(⟨s18⟩ : PCache), rfl, trivial, ?_, ?_⟩
    ·
     repeat' apply And.intro
     all_goals (try dsimp only)
     all_goals first | trivial | assumption | omega | ((try simp only [List.length_append, List.length_cons, List.length_nil, lsz_app, lsz_one, lsz_cons, lsz_nil, TAddr.size, TResponse.size, TRequest.size, TPolicy.size, TEntry.size, TCache.size, strsz, TServer.size, TFile.size, List.map_append, List.map_cons, List.map_nil, PServer.lg, PPolicy.lg, PCache.lg, hl18] at *); first | omega | assumption)
    ·
     exact hs.freshD (x := (⟨s18⟩ : PCache)) (F := Fj19) Q2
   ·
    replace hs := Sat.boxow (l := ([([104, 111, 109, 101] : Str), ([] : Str)] : List Str)) (hs.sel (D := [box b13 _ _]) Q2) rfl rfl (by decide) (ownL_mk_flat (lit_str Q0))
    try simp only [List.cons_append, List.nil_append] at hs
    refine WI.calld (i := 4) hs (T := 137) (b := b_) (c := c) Q2 (fun _ hs => hs.only Q2) Q0 Q0 (Yc.func Q0 fn61) (c_spec_l1Str c b_ (⟨[([104, 111, 109, 101] : Str), ([] : Str)], some ⟨b13, 0, none⟩, 2⟩ : Sl Str) _ (Apart.own (s := (⟨[([104, 111, 109, 101] : Str), ([] : Str)], some ⟨b13, 0, none⟩, 2⟩ : Sl Str)) (F := [b13]) hs Q2) (by exact Nat.succ_pos _) (hs.cur Q1) (Apart.now hb_c hs)) ?_
    clear hs; intro v w ho hR hs
    obtain ⟨x20, rfl, hokx20, hx20, hf20⟩ := hR
    clear ho hf20
    replace hx20 : x20 ∈ ([([104, 111, 109, 101] : Str), ([] : Str)] : List Str) := hx20
    have hn20 := mem_len 4 hx20 Q0
    refine WA.two (i := 1) (j := 6) Q6 ?_ ?_
    ·
     refine WI.r (i := 1) Q0 Q0 (Yl.yr (Yl.loadB sca39 Q0 hs Q1 Q0)) (by rintro _ _ ⟨rfl, rfl⟩; exact hs.only Q2) ?_
     rintro _ _ ⟨rfl, rfl⟩
     refine WA.calld (i := 6) hs (T := 137) (b := b_) (c := c) Q2 (fun _ hs => hs.only Q2) Q6 Q0 Q0 (Yc.func Q0 fn68) (c_spec_l4Any c b_ _ (hs.cur Q1) (Apart.now hb_c hs)) ?_
     clear hs; intro v w ho hR hs
     obtain ⟨x21, rfl, hokx21, hx21, hf21⟩ := hR
     clear ho hf21
     have hn21 := hx21.1; have hm21 := hx21.2
     refine WA.calld (i := 8) hs (T := 137) (b := b_) (c := c) Q2 (fun _ hs => hs.only Q2) Q6 Q0 Q0 (Yc.func Q0 fn69) (c_spec_l10Any c b_ _ (hs.cur Q1) (Apart.now hb_c hs)) ?_
     clear hs; intro v w ho hR hs
     obtain ⟨x22, rfl, hokx22, hx22, hf22⟩ := hR
     clear ho hf22
     refine WA.p (i := 9) Q0 Q6 Q6 Q6 Q0 (hs.only Q2) (fun w hs => Yl.build bt99 Q0 Q4) ?_
     refine WA.r (i := 10) Q6 Q0 Q0 (Yr.buildSlice hs sll39 Q0 Q0 Q0 Q4 Q0) (by rintro _ w ⟨b23, rfl, hb, hs⟩; exact hs.only Q2) ?_
     clear hs; rintro _ w ⟨b23, rfl, hb, hs⟩; clear hb
     refine WA.r (i := 11) Q6 Q0 Q0 (Yr.append (s := x2.entries) (F := K3_0) hs elt39 Q2 Q0 Q0 rfl (xs := [(⟨x20, (⟨x21.host, x21.path⟩ : TAddr), (⟨x22.status, x22.kind, x22.body, x22.age, x22.shares, x22.policy⟩ : TResponse), 0⟩ : TEntry)]) (hs.box_cells Q1) (by intro x hx; obtain rfl := List.mem_singleton.1 hx; exact ⟨(by first | exact (Flat.any hokx20) | trivial | assumption | exact Flat.any (by assumption) | exact ⟨by omega, by omega⟩ | (show WfS _; unfold WfS; omega) | (show WfS _; unfold WfS; simp only [List.length_append, List.length_cons, List.length_nil] at *; omega) | (refine Ph.old ?_ hs; assumption)), ⟨(by first | exact (Flat.any hokx21).host | trivial | assumption | exact Flat.any (by assumption) | exact ⟨by omega, by omega⟩ | (show WfS _; unfold WfS; omega) | (show WfS _; unfold WfS; simp only [List.length_append, List.length_cons, List.length_nil] at *; omega) | (refine Ph.old ?_ hs; assumption)), (by first | exact (Flat.any hokx21).path | trivial | assumption | exact Flat.any (by assumption) | exact ⟨by omega, by omega⟩ | (show WfS _; unfold WfS; omega) | (show WfS _; unfold WfS; simp only [List.length_append, List.length_cons, List.length_nil] at *; omega) | (refine Ph.old ?_ hs; assumption))⟩, ⟨(by first | exact (Flat.any hokx22).status | trivial | assumption | exact Flat.any (by assumption) | exact ⟨by omega, by omega⟩ | (show WfS _; unfold WfS; omega) | (show WfS _; unfold WfS; simp only [List.length_append, List.length_cons, List.length_nil] at *; omega) | (refine Ph.old ?_ hs; assumption)), (by first | exact (Flat.any hokx22).kind | trivial | assumption | exact Flat.any (by assumption) | exact ⟨by omega, by omega⟩ | (show WfS _; unfold WfS; omega) | (show WfS _; unfold WfS; simp only [List.length_append, List.length_cons, List.length_nil] at *; omega) | (refine Ph.old ?_ hs; assumption)), (by first | exact (Flat.any hokx22).body | trivial | assumption | exact Flat.any (by assumption) | exact ⟨by omega, by omega⟩ | (show WfS _; unfold WfS; omega) | (show WfS _; unfold WfS; simp only [List.length_append, List.length_cons, List.length_nil] at *; omega) | (refine Ph.old ?_ hs; assumption)), (by first | exact (Flat.any hokx22).age | trivial | assumption | exact Flat.any (by assumption) | exact ⟨by omega, by omega⟩ | (show WfS _; unfold WfS; omega) | (show WfS _; unfold WfS; simp only [List.length_append, List.length_cons, List.length_nil] at *; omega) | (refine Ph.old ?_ hs; assumption)), (by first | exact (Flat.any hokx22).shares | trivial | assumption | exact Flat.any (by assumption) | exact ⟨by omega, by omega⟩ | (show WfS _; unfold WfS; omega) | (show WfS _; unfold WfS; simp only [List.length_append, List.length_cons, List.length_nil] at *; omega) | (refine Ph.old ?_ hs; assumption)), (by first | exact (Flat.any hokx22).policy | trivial | assumption | exact Flat.any (by assumption) | exact ⟨by omega, by omega⟩ | (show WfS _; unfold WfS; omega) | (show WfS _; unfold WfS; simp only [List.length_append, List.length_cons, List.length_nil] at *; omega) | (refine Ph.old ?_ hs; assumption))⟩, (by first | exact (show WfI 0 from ⟨by omega, by omega⟩) | trivial | assumption | exact Flat.any (by assumption) | exact ⟨by omega, by omega⟩ | (show WfS _; unfold WfS; omega) | (show WfS _; unfold WfS; simp only [List.length_append, List.length_cons, List.length_nil] at *; omega) | (refine Ph.old ?_ hs; assumption))⟩) (by first | (unfold maxLen; omega) | omega | ((try simp only [lsz, strsz, List.length_map, PCache.lg, TCache.size, PPolicy.lg, TPolicy.size, List.length_cons, List.length_nil] at *); first | (unfold maxLen; omega) | omega)) (by first | (unfold maxLen; omega) | omega | ((try simp only [lsz, strsz, List.length_map, PCache.lg, TCache.size, PPolicy.lg, TPolicy.size, List.length_cons, List.length_nil] at *); first | (unfold maxLen; omega) | omega))) (by rintro _ w ⟨s24, F24, rfl, hl24, hs⟩; exact hs.only Q2) ?_
     clear hs; rintro _ w ⟨s24, F24, rfl, hl24, hs⟩
     refine WA.p (i := 12) Q0 Q6 Q6 Q6 Q0 (hs.only Q2) (fun w hs => Yl.fieldAddr fa41_0 Q0) ?_
     refine WA.s (i := 13) Q6 Q0 (Yr.storeB hs Q0 Q0 Q0 Q5 Q3 Q0 (by exact szf39)) (by rintro _ w hs; exact hs.only Q2) ?_
     clear hs; rintro _ w hs
     refine WA.done Q6 ?_
     refine At.blocknormal ?_
     refine At.then_ ?_
     refine WC.seq ?_
     refine WL.p Q0 (Yl.loadAB agg41 Q0 hs Q1 Q0 Q0) ?_
     refine WL.s (Yr.storeB hs Q0 Q0 Q0 Q5 Q3 Q0 (by exact szf41)) ?_
     clear hs; rintro _ w hs
     refine WL.next ?_
     refine WC.ret ?_
     refine fin1c rfl agg41 Q0 hs Q1 Q0 ?_
     obtain ⟨Fj25, hs⟩ : ∃ F, Sat _ _ _ (ow (⟨s24⟩ : PCache) F :: _) := ⟨_, PCache.join (⟨s24⟩ : PCache) (hs.sel (D := [ow s24 F24]) Q2) ⟩
     try simp only [List.cons_append, List.nil_append] at hs
     refine RetD.mk hs Q1 ?_
     refine ⟨(⟨s24⟩ : PCache), rfl, trivial, ?_, ?_⟩
     ·
      repeat' apply And.intro
      all_goals (try dsimp only)
      all_goals first | trivial | assumption | omega | ((try simp only [List.length_append, List.length_cons, List.length_nil, lsz_app, lsz_one, lsz_cons, lsz_nil, TAddr.size, TResponse.size, TRequest.size, TPolicy.size, TEntry.size, TCache.size, strsz, TServer.size, TFile.size, List.map_append, List.map_cons, List.map_nil, PServer.lg, PPolicy.lg, PCache.lg, hl24] at *); first | omega | assumption)
     ·
      exact hs.freshD (x := (⟨s24⟩ : PCache)) (F := Fj25) Q2
    ·
     refine WI.calld (i := 6) hs (T := 137) (b := b_) (c := c) Q2 (fun _ hs => hs.only Q2) Q0 Q0 (Yc.func Q0 fn68) (c_spec_l4Any c b_ _ (hs.cur Q1) (Apart.now hb_c hs)) ?_
     clear hs; intro v w ho hR hs
     obtain ⟨x26, rfl, hokx26, hx26, hf26⟩ := hR
     clear ho hf26
     have hn26 := hx26.1; have hm26 := hx26.2
     refine WA.two (i := 1) (j := 8) Q6 ?_ ?_
     ·
      refine WI.r (i := 1) Q0 Q0 (Yl.yr (Yl.loadB sca39 Q0 hs Q1 Q0)) (by rintro _ _ ⟨rfl, rfl⟩; exact hs.only Q2) ?_
      rintro _ _ ⟨rfl, rfl⟩
      refine WA.calld (i := 8) hs (T := 137) (b := b_) (c := c) Q2 (fun _ hs => hs.only Q2) Q6 Q0 Q0 (Yc.func Q0 fn69) (c_spec_l10Any c b_ _ (hs.cur Q1) (Apart.now hb_c hs)) ?_
      clear hs; intro v w ho hR hs
      obtain ⟨x27, rfl, hokx27, hx27, hf27⟩ := hR
      clear ho hf27
      refine WA.p (i := 9) Q0 Q6 Q6 Q6 Q0 (hs.only Q2) (fun w hs => Yl.build bt99 Q0 Q4) ?_
      refine WA.r (i := 10) Q6 Q0 Q0 (Yr.buildSlice hs sll39 Q0 Q0 Q0 Q4 Q0) (by rintro _ w ⟨b28, rfl, hb, hs⟩; exact hs.only Q2) ?_
      clear hs; rintro _ w ⟨b28, rfl, hb, hs⟩; clear hb
      refine WA.r (i := 11) Q6 Q0 Q0 (Yr.append (s := x2.entries) (F := K3_0) hs elt39 Q2 Q0 Q0 rfl (xs := [(⟨x20, (⟨x26.host, x26.path⟩ : TAddr), (⟨x27.status, x27.kind, x27.body, x27.age, x27.shares, x27.policy⟩ : TResponse), 0⟩ : TEntry)]) (hs.box_cells Q1) (by intro x hx; obtain rfl := List.mem_singleton.1 hx; exact ⟨(by first | exact (Flat.any hokx20) | trivial | assumption | exact Flat.any (by assumption) | exact ⟨by omega, by omega⟩ | (show WfS _; unfold WfS; omega) | (show WfS _; unfold WfS; simp only [List.length_append, List.length_cons, List.length_nil] at *; omega) | (refine Ph.old ?_ hs; assumption)), ⟨(by first | exact (Flat.any hokx26).host | trivial | assumption | exact Flat.any (by assumption) | exact ⟨by omega, by omega⟩ | (show WfS _; unfold WfS; omega) | (show WfS _; unfold WfS; simp only [List.length_append, List.length_cons, List.length_nil] at *; omega) | (refine Ph.old ?_ hs; assumption)), (by first | exact (Flat.any hokx26).path | trivial | assumption | exact Flat.any (by assumption) | exact ⟨by omega, by omega⟩ | (show WfS _; unfold WfS; omega) | (show WfS _; unfold WfS; simp only [List.length_append, List.length_cons, List.length_nil] at *; omega) | (refine Ph.old ?_ hs; assumption))⟩, ⟨(by first | exact (Flat.any hokx27).status | trivial | assumption | exact Flat.any (by assumption) | exact ⟨by omega, by omega⟩ | (show WfS _; unfold WfS; omega) | (show WfS _; unfold WfS; simp only [List.length_append, List.length_cons, List.length_nil] at *; omega) | (refine Ph.old ?_ hs; assumption)), (by first | exact (Flat.any hokx27).kind | trivial | assumption | exact Flat.any (by assumption) | exact ⟨by omega, by omega⟩ | (show WfS _; unfold WfS; omega) | (show WfS _; unfold WfS; simp only [List.length_append, List.length_cons, List.length_nil] at *; omega) | (refine Ph.old ?_ hs; assumption)), (by first | exact (Flat.any hokx27).body | trivial | assumption | exact Flat.any (by assumption) | exact ⟨by omega, by omega⟩ | (show WfS _; unfold WfS; omega) | (show WfS _; unfold WfS; simp only [List.length_append, List.length_cons, List.length_nil] at *; omega) | (refine Ph.old ?_ hs; assumption)), (by first | exact (Flat.any hokx27).age | trivial | assumption | exact Flat.any (by assumption) | exact ⟨by omega, by omega⟩ | (show WfS _; unfold WfS; omega) | (show WfS _; unfold WfS; simp only [List.length_append, List.length_cons, List.length_nil] at *; omega) | (refine Ph.old ?_ hs; assumption)), (by first | exact (Flat.any hokx27).shares | trivial | assumption | exact Flat.any (by assumption) | exact ⟨by omega, by omega⟩ | (show WfS _; unfold WfS; omega) | (show WfS _; unfold WfS; simp only [List.length_append, List.length_cons, List.length_nil] at *; omega) | (refine Ph.old ?_ hs; assumption)), (by first | exact (Flat.any hokx27).policy | trivial | assumption | exact Flat.any (by assumption) | exact ⟨by omega, by omega⟩ | (show WfS _; unfold WfS; omega) | (show WfS _; unfold WfS; simp only [List.length_append, List.length_cons, List.length_nil] at *; omega) | (refine Ph.old ?_ hs; assumption))⟩, (by first | exact (show WfI 0 from ⟨by omega, by omega⟩) | trivial | assumption | exact Flat.any (by assumption) | exact ⟨by omega, by omega⟩ | (show WfS _; unfold WfS; omega) | (show WfS _; unfold WfS; simp only [List.length_append, List.length_cons, List.length_nil] at *; omega) | (refine Ph.old ?_ hs; assumption))⟩) (by first | (unfold maxLen; omega) | omega | ((try simp only [lsz, strsz, List.length_map, PCache.lg, TCache.size, PPolicy.lg, TPolicy.size, List.length_cons, List.length_nil] at *); first | (unfold maxLen; omega) | omega)) (by first | (unfold maxLen; omega) | omega | ((try simp only [lsz, strsz, List.length_map, PCache.lg, TCache.size, PPolicy.lg, TPolicy.size, List.length_cons, List.length_nil] at *); first | (unfold maxLen; omega) | omega))) (by rintro _ w ⟨s29, F29, rfl, hl29, hs⟩; exact hs.only Q2) ?_
      clear hs; rintro _ w ⟨s29, F29, rfl, hl29, hs⟩
      refine WA.p (i := 12) Q0 Q6 Q6 Q6 Q0 (hs.only Q2) (fun w hs => Yl.fieldAddr fa41_0 Q0) ?_
      refine WA.s (i := 13) Q6 Q0 (Yr.storeB hs Q0 Q0 Q0 Q5 Q3 Q0 (by exact szf39)) (by rintro _ w hs; exact hs.only Q2) ?_
      clear hs; rintro _ w hs
      refine WA.done Q6 ?_
      refine At.blocknormal ?_
      refine At.then_ ?_
      refine WC.seq ?_
      refine WL.p Q0 (Yl.loadAB agg41 Q0 hs Q1 Q0 Q0) ?_
      refine WL.s (Yr.storeB hs Q0 Q0 Q0 Q5 Q3 Q0 (by exact szf41)) ?_
      clear hs; rintro _ w hs
      refine WL.next ?_
      refine WC.ret ?_
      refine fin1c rfl agg41 Q0 hs Q1 Q0 ?_
      obtain ⟨Fj30, hs⟩ : ∃ F, Sat _ _ _ (ow (⟨s29⟩ : PCache) F :: _) := ⟨_, PCache.join (⟨s29⟩ : PCache) (hs.sel (D := [ow s29 F29]) Q2) ⟩
      try simp only [List.cons_append, List.nil_append] at hs
      refine RetD.mk hs Q1 ?_
      refine ⟨(⟨s29⟩ : PCache), rfl, trivial, ?_, ?_⟩
      ·
       repeat' apply And.intro
       all_goals (try dsimp only)
       all_goals first | trivial | assumption | omega | ((try simp only [List.length_append, List.length_cons, List.length_nil, lsz_app, lsz_one, lsz_cons, lsz_nil, TAddr.size, TResponse.size, TRequest.size, TPolicy.size, TEntry.size, TCache.size, strsz, TServer.size, TFile.size, List.map_append, List.map_cons, List.map_nil, PServer.lg, PPolicy.lg, PCache.lg, hl29] at *); first | omega | assumption)
      ·
       exact hs.freshD (x := (⟨s29⟩ : PCache)) (F := Fj30) Q2
     ·
      refine WI.calld (i := 8) hs (T := 137) (b := b_) (c := c) Q2 (fun _ hs => hs.only Q2) Q0 Q0 (Yc.func Q0 fn69) (c_spec_l10Any c b_ _ (hs.cur Q1) (Apart.now hb_c hs)) ?_
      clear hs; intro v w ho hR hs
      obtain ⟨x31, rfl, hokx31, hx31, hf31⟩ := hR
      clear ho hf31
      refine WA.p (i := 9) Q0 Q6 Q6 Q6 Q0 (hs.only Q2) (fun w hs => Yl.build bt99 Q0 Q4) ?_
      refine WA.dag' [(⟨1, 12, [], (fun _ v cs => v = Sl.v x2.entries ∧ cs = [])⟩, []), (⟨10, 21, [], (fun _ v cs => ∃ b, v = .slice (some ⟨b, 0, none⟩) 1 1 ∧ cs = [box b 99 ((Ph.enc ((⟨x20, (⟨x26.host, x26.path⟩ : TAddr), (⟨x31.status, x31.kind, x31.body, x31.age, x31.shares, x31.policy⟩ : TResponse), 0⟩ : TEntry))))])⟩, [])] [false, false] [(0, _), (2, _), (3, _), (5, _), (6, _), (7, _), (8, _), (9, _), (10, _), (11, _), (13, _), (14, _), (15, _), (16, _), (17, _), (18, _), (19, _), (20, _)] ⟨by rfl, by rfl, by rfl, by rfl, by rfl, by rfl, by rfl, by rfl, by rfl, by rfl, by rfl, by rfl, by rfl, by rfl, by rfl, by rfl, by rfl, by rfl, trivial⟩ Q0 Q6 Q6 Q6 Q6 Q6 Q6 Q6 Q6 (fun _ hs => hs.only Q2) hs (fuel := 3) ⟨⟨local_const, ?_⟩, ⟨local_const, ?_⟩, trivial⟩ ?_
      ·
       clear hs
       intro w R hs
       simp only [List.cons_append, List.nil_append] at hs
       exact Gives.p' Q0 (Yl.loadB sca39 Q0 hs Q1 Q0) ⟨[], ⟨rfl, rfl⟩, hs⟩
      ·
       clear hs
       intro w R hs
       simp only [List.cons_append, List.nil_append] at hs
       exact Gives.rr' Q0 (Yr.buildSlice hs sll39 Q0 Q0 Q0 Q4 Q0) (fun _ _ ⟨b, hv, _, hs1⟩ => ⟨[box b 99 ((Ph.enc ((⟨x20, (⟨x26.host, x26.path⟩ : TAddr), (⟨x31.status, x31.kind, x31.body, x31.age, x31.shares, x31.policy⟩ : TResponse), 0⟩ : TEntry))))], ⟨b, hv, rfl⟩, hs1⟩)
      clear hs
      rintro _ _ ⟨rfl, rfl⟩
      rintro _ _ ⟨b33, rfl, rfl⟩
      intro w hs
      simp only [List.cons_append, List.nil_append, cond_true, cond_false] at hs
      refine WA.r (i := 11) Q6 Q0 Q0 (Yr.append (s := x2.entries) (F := K3_0) hs elt39 Q2 Q0 Q0 rfl (xs := [(⟨x20, (⟨x26.host, x26.path⟩ : TAddr), (⟨x31.status, x31.kind, x31.body, x31.age, x31.shares, x31.policy⟩ : TResponse), 0⟩ : TEntry)]) (hs.box_cells Q1) (by intro x hx; obtain rfl := List.mem_singleton.1 hx; exact ⟨(by first | exact (Flat.any hokx20) | trivial | assumption | exact Flat.any (by assumption) | exact ⟨by omega, by omega⟩ | (show WfS _; unfold WfS; omega) | (show WfS _; unfold WfS; simp only [List.length_append, List.length_cons, List.length_nil] at *; omega) | (refine Ph.old ?_ hs; assumption)), ⟨(by first | exact (Flat.any hokx26).host | trivial | assumption | exact Flat.any (by assumption) | exact ⟨by omega, by omega⟩ | (show WfS _; unfold WfS; omega) | (show WfS _; unfold WfS; simp only [List.length_append, List.length_cons, List.length_nil] at *; omega) | (refine Ph.old ?_ hs; assumption)), (by first | exact (Flat.any hokx26).path | trivial | assumption | exact Flat.any (by assumption) | exact ⟨by omega, by omega⟩ | (show WfS _; unfold WfS; omega) | (show WfS _; unfold WfS; simp only [List.length_append, List.length_cons, List.length_nil] at *; omega) | (refine Ph.old ?_ hs; assumption))⟩, ⟨(by first | exact (Flat.any hokx31).status | trivial | assumption | exact Flat.any (by assumption) | exact ⟨by omega, by omega⟩ | (show WfS _; unfold WfS; omega) | (show WfS _; unfold WfS; simp only [List.length_append, List.length_cons, List.length_nil] at *; omega) | (refine Ph.old ?_ hs; assumption)), (by first | exact (Flat.any hokx31).kind | trivial | assumption | exact Flat.any (by assumption) | exact ⟨by omega, by omega⟩ | (show WfS _; unfold WfS; omega) | (show WfS _; unfold WfS; simp only [List.length_append, List.length_cons, List.length_nil] at *; omega) | (refine Ph.old ?_ hs; assumption)), (by first | exact (Flat.any hokx31).body | trivial | assumption | exact Flat.any (by assumption) | exact ⟨by omega, by omega⟩ | (show WfS _; unfold WfS; omega) | (show WfS _; unfold WfS; simp only [List.length_append, List.length_cons, List.length_nil] at *; omega) | (refine Ph.old ?_ hs; assumption)), (by first | exact (Flat.any hokx31).age | trivial | assumption | exact Flat.any (by assumption) | exact ⟨by omega, by omega⟩ | (show WfS _; unfold WfS; omega) | (show WfS _; unfold WfS; simp only [List.length_append, List.length_cons, List.length_nil] at *; omega) | (refine Ph.old ?_ hs; assumption)), (by first | exact (Flat.any hokx31).shares | trivial | assumption | exact Flat.any (by assumption) | exact ⟨by omega, by omega⟩ | (show WfS _; unfold WfS; omega) | (show WfS _; unfold WfS; simp only [List.length_append, List.length_cons, List.length_nil] at *; omega) | (refine Ph.old ?_ hs; assumption)), (by first | exact (Flat.any hokx31).policy | trivial | assumption | exact Flat.any (by assumption) | exact ⟨by omega, by omega⟩ | (show WfS _; unfold WfS; omega) | (show WfS _; unfold WfS; simp only [List.length_append, List.length_cons, List.length_nil] at *; omega) | (refine Ph.old ?_ hs; assumption))⟩, (by first | exact (show WfI 0 from ⟨by omega, by omega⟩) | trivial | assumption | exact Flat.any (by assumption) | exact ⟨by omega, by omega⟩ | (show WfS _; unfold WfS; omega) | (show WfS _; unfold WfS; simp only [List.length_append, List.length_cons, List.length_nil] at *; omega) | (refine Ph.old ?_ hs; assumption))⟩) (by first | (unfold maxLen; omega) | omega | ((try simp only [lsz, strsz, List.length_map, PCache.lg, TCache.size, PPolicy.lg, TPolicy.size, List.length_cons, List.length_nil] at *); first | (unfold maxLen; omega) | omega)) (by first | (unfold maxLen; omega) | omega | ((try simp only [lsz, strsz, List.length_map, PCache.lg, TCache.size, PPolicy.lg, TPolicy.size, List.length_cons, List.length_nil] at *); first | (unfold maxLen; omega) | omega))) (by rintro _ w ⟨s34, F34, rfl, hl34, hs⟩; exact hs.only Q2) ?_
      clear hs; rintro _ w ⟨s34, F34, rfl, hl34, hs⟩
      refine WA.p (i := 12) Q0 Q6 Q6 Q6 Q0 (hs.only Q2) (fun w hs => Yl.fieldAddr fa41_0 Q0) ?_
      refine WA.s (i := 13) Q6 Q0 (Yr.storeB hs Q0 Q0 Q0 Q5 Q3 Q0 (by exact szf39)) (by rintro _ w hs; exact hs.only Q2) ?_
      clear hs; rintro _ w hs
      refine WA.done Q6 ?_
      refine At.blocknormal ?_
      refine At.then_ ?_
      refine WC.seq ?_
      refine WL.p Q0 (Yl.loadAB agg41 Q0 hs Q1 Q0 Q0) ?_
      refine WL.s (Yr.storeB hs Q0 Q0 Q0 Q5 Q3 Q0 (by exact szf41)) ?_
      clear hs; rintro _ w hs
      refine WL.next ?_
      refine WC.ret ?_
      refine fin1c rfl agg41 Q0 hs Q1 Q0 ?_
      obtain ⟨Fj35, hs⟩ : ∃ F, Sat _ _ _ (ow (⟨s34⟩ : PCache) F :: _) := ⟨_, PCache.join (⟨s34⟩ : PCache) (hs.sel (D := [ow s34 F34]) Q2) ⟩
      try simp only [List.cons_append, List.nil_append] at hs
      refine RetD.mk hs Q1 ?_
      refine ⟨(⟨s34⟩ : PCache), rfl, trivial, ?_, ?_⟩
      ·
       repeat' apply And.intro
       all_goals (try dsimp only)
       all_goals first | trivial | assumption | omega | ((try simp only [List.length_append, List.length_cons, List.length_nil, lsz_app, lsz_one, lsz_cons, lsz_nil, TAddr.size, TResponse.size, TRequest.size, TPolicy.size, TEntry.size, TCache.size, strsz, TServer.size, TFile.size, List.map_append, List.map_cons, List.map_nil, PServer.lg, PPolicy.lg, PCache.lg, hl34] at *); first | omega | assumption)
      ·
       exact hs.freshD (x := (⟨s34⟩ : PCache)) (F := Fj35) Q2
 ·
  replace h1 := of_decide_eq_false h1
  refine WC.seq ?_
  refine WL.p Q0 (Yl.eqi Q0 Q0) ?_
  refine Qa ?_
  refine WL.next ?_
  refine WC.condS Q0 (fun h2 => ?_) (fun h2 => ?_)
  ·
   replace h2 := of_decide_eq_true h2
   refine WC.seq ?_
   refine Qa ?_
   refine WL.next ?_
   refine WC.block ?_
   refine WC.loopC (ι := Nat × Sl TEntry × List Nat) (fun ⟨k, s, F⟩ => 101 - k) (fun ⟨k, s, F⟩ => [(4, I (k : Int))]) (fun ⟨k, s, F⟩ => [box b4 41 [Sl.v s], ow s F]) (fun ⟨k, s, F⟩ => k ≤ 101 ∧ lsz TEntry.size s.l ≤ 10000 + k * 20) [(0, _), (2, _), (3, _), (8, _), (9, _), (24, _)] (0, x2.entries, K3_0) (hs.sel (D := [box b4 41 _, ow x2.entries K3_0]) Q2) ⟨by rfl, by rfl, by rfl, by rfl, by rfl, by rfl, trivial⟩ ⟨by rfl, trivial⟩ ?_ ?_
   ·
    exact ⟨by omega, by simp only [PCache.lg, TCache.size] at hx2; omega⟩
   clear hs; rintro ⟨k, s, F⟩ w ⟨hJ1, hJ2⟩ hs
   simp only [List.cons_append, List.nil_append] at hs
   refine WC.seq' ?_
   refine WC.seq ?_
   refine Qm ?_
   refine WL.p Q0 (Yl.lss Q0 Q0) ?_
   refine WL.next ?_
   refine WC.condS Q0 (fun h3 => ?_) (fun h3 => ?_)
   ·
    replace h3 := of_decide_eq_true h3
    skip
    refine WC.skipn ?_
    refine WC.seq' ?_
    refine WC.block ?_
    refine WC.region ?_
    refine WL.p Q0 (Yl.fieldAddr fa41_0 Q0) ?_
    refine WL.p Q0 (Yl.loadB sca39 Q0 hs Q1 Q0) ?_
    refine Qm ?_
    refine WL.p Q0 (Yl.remw Q0 Q0 (by decide)) ?_
    refine WL.p Q0 (Yl.add Q0 Q0 (by have := tmod_bd (a := (k : Int)) (n := 20) Q7 Q7; omega)) ?_
    refine WL.p Q0 (Yl.intByte (c := UInt8.ofNat (97 + k % 20)) Q6 u8t5 Q0 (by exact ch_mod Q7)) ?_
    refine Qm ?_
    refine WL.p Q0 (Yl.quow Q0 Q0 (by decide)) ?_
    refine WL.p Q0 (Yl.add Q0 Q0 (by have := quo_bd (k := k) Q7; omega)) ?_
    refine WL.p Q0 (Yl.intByte (c := UInt8.ofNat (97 + k / 20)) Q6 u8t5 Q0 (by exact ch_quo Q7)) ?_
    refine WL.r Q0 (Yr.buildSlice hs sll22 Q0 Q0 Q0 Q4 Q0) ?_
    clear hs; rintro _ w ⟨b36, rfl, hb, hs⟩; clear hb
    refine WL.p Q0 (Yl.bytesStr (l := [UInt8.ofNat (97 + k % 20), UInt8.ofNat (97 + k / 20)]) slu22 u8t5 str9 Q0 (hs.box_cells Q1) Q0 Q0) ?_
    refine WL.p Q0 (Yl.build bt43 Q0 Q4) ?_
    refine WL.p Q0 (Yl.build bt45 Q0 Q4) ?_
    refine WL.p Q0 (Yl.build bt99 Q0 Q4) ?_
    refine WL.r Q0 (Yr.buildSlice hs sll39 Q0 Q0 Q0 Q4 Q0) ?_
    clear hs; rintro _ w ⟨b37, rfl, hb, hs⟩; clear hb
    refine WL.r Q0 (Yr.append (s := s) (F := F) hs elt39 Q2 Q0 Q0 rfl (xs := [(⟨([104, 111, 109, 101] : Str), (⟨([99, 100, 110] : Str), ([UInt8.ofNat (97 + k % 20), UInt8.ofNat (97 + k / 20)] : Str)⟩ : TAddr), (⟨200, 2, ([] : Str), 0, false, ([] : Str)⟩ : TResponse), 0⟩ : TEntry)]) (hs.box_cells Q1) (by intro x hx; obtain rfl := List.mem_singleton.1 hx; exact ⟨(by first | exact (show WfS [104, 111, 109, 101] from (by unfold WfS; simp)) | trivial | assumption | exact Flat.any (by assumption) | exact ⟨by omega, by omega⟩ | (show WfS _; unfold WfS; omega) | (show WfS _; unfold WfS; simp only [List.length_append, List.length_cons, List.length_nil] at *; omega) | (refine Ph.old ?_ hs; assumption)), ⟨(by first | exact (show WfS [99, 100, 110] from (by unfold WfS; simp)) | trivial | assumption | exact Flat.any (by assumption) | exact ⟨by omega, by omega⟩ | (show WfS _; unfold WfS; omega) | (show WfS _; unfold WfS; simp only [List.length_append, List.length_cons, List.length_nil] at *; omega) | (refine Ph.old ?_ hs; assumption)), (by first | exact (show WfS _ from by unfold WfS; simp) | trivial | assumption | exact Flat.any (by assumption) | exact ⟨by omega, by omega⟩ | (show WfS _; unfold WfS; omega) | (show WfS _; unfold WfS; simp only [List.length_append, List.length_cons, List.length_nil] at *; omega) | (refine Ph.old ?_ hs; assumption))⟩, ⟨(by first | exact (show WfI 200 from ⟨by omega, by omega⟩) | trivial | assumption | exact Flat.any (by assumption) | exact ⟨by omega, by omega⟩ | (show WfS _; unfold WfS; omega) | (show WfS _; unfold WfS; simp only [List.length_append, List.length_cons, List.length_nil] at *; omega) | (refine Ph.old ?_ hs; assumption)), (by first | exact (show WfI 2 from ⟨by omega, by omega⟩) | trivial | assumption | exact Flat.any (by assumption) | exact ⟨by omega, by omega⟩ | (show WfS _; unfold WfS; omega) | (show WfS _; unfold WfS; simp only [List.length_append, List.length_cons, List.length_nil] at *; omega) | (refine Ph.old ?_ hs; assumption)), (by first | exact (show WfS [] from Nat.zero_le _) | trivial | assumption | exact Flat.any (by assumption) | exact ⟨by omega, by omega⟩ | (show WfS _; unfold WfS; omega) | (show WfS _; unfold WfS; simp only [List.length_append, List.length_cons, List.length_nil] at *; omega) | (refine Ph.old ?_ hs; assumption)), (by first | exact (show WfI 0 from ⟨by omega, by omega⟩) | trivial | assumption | exact Flat.any (by assumption) | exact ⟨by omega, by omega⟩ | (show WfS _; unfold WfS; omega) | (show WfS _; unfold WfS; simp only [List.length_append, List.length_cons, List.length_nil] at *; omega) | (refine Ph.old ?_ hs; assumption)), (by first | exact trivial | trivial | assumption | exact Flat.any (by assumption) | exact ⟨by omega, by omega⟩ | (show WfS _; unfold WfS; omega) | (show WfS _; unfold WfS; simp only [List.length_append, List.length_cons, List.length_nil] at *; omega) | (refine Ph.old ?_ hs; assumption)), (by first | exact (show WfS [] from Nat.zero_le _) | trivial | assumption | exact Flat.any (by assumption) | exact ⟨by omega, by omega⟩ | (show WfS _; unfold WfS; omega) | (show WfS _; unfold WfS; simp only [List.length_append, List.length_cons, List.length_nil] at *; omega) | (refine Ph.old ?_ hs; assumption))⟩, (by first | exact (show WfI 0 from ⟨by omega, by omega⟩) | trivial | assumption | exact Flat.any (by assumption) | exact ⟨by omega, by omega⟩ | (show WfS _; unfold WfS; omega) | (show WfS _; unfold WfS; simp only [List.length_append, List.length_cons, List.length_nil] at *; omega) | (refine Ph.old ?_ hs; assumption))⟩) (by first | (unfold maxLen; omega) | omega | ((try simp only [lsz, strsz, List.length_map, PCache.lg, TCache.size, PPolicy.lg, TPolicy.size, List.length_cons, List.length_nil] at *); first | (unfold maxLen; omega) | omega)) (by first | (unfold maxLen; omega) | omega | ((try simp only [lsz, strsz, List.length_map, PCache.lg, TCache.size, PPolicy.lg, TPolicy.size, List.length_cons, List.length_nil] at *); first | (unfold maxLen; omega) | omega))) ?_
    clear hs; rintro _ w ⟨s38, F38, rfl, hl38, hs⟩
    refine WL.p Q0 (Yl.fieldAddr fa41_0 Q0) ?_
    refine WL.s (Yr.storeB hs Q0 Q0 Q0 Q5 Q3 Q0 (by exact szf39)) ?_
    clear hs; rintro _ w hs
    refine WL.nil ?_
    refine At.blocknormal ?_
    refine At.then_ ?_
    refine WC.region ?_
    refine Qm ?_
    refine WL.p Q0 (Yl.add Q0 Q0 Q7) ?_
    refine Qa ?_
    refine WL.nil ?_
    refine At.roundC (k + 1, s38, F38) (hs.only Q2) ⟨by rfl, by rfl, by rfl, by rfl, by rfl, by rfl, trivial⟩ ⟨by rfl, trivial⟩ ?_ ?_
    ·
     show 101 - (k + 1) < 101 - k
     omega
    ·
     refine ⟨by omega, ?_⟩
     rw [hl38, lsz_app, lsz_one]; simp only [TEntry.size, TAddr.size, TResponse.size, List.length_cons, List.length_nil]; omega
   ·
    replace h3 := of_decide_eq_false h3
    refine WC.exit ?_
    refine At.thenexit ?_
    refine At.thenexit ?_
    refine At.blockexit ?_
    refine At.blocknormal ?_
    refine At.then_ ?_
    refine WC.seq ?_
    refine WL.p Q0 (Yl.loadAB agg41 Q0 hs Q1 Q0 Q0) ?_
    refine WL.s (Yr.storeB hs Q0 Q0 Q0 Q5 Q3 Q0 (by exact szf41)) ?_
    clear hs; rintro _ w hs
    refine WL.next ?_
    refine WC.ret ?_
    refine fin1c rfl agg41 Q0 hs Q1 Q0 ?_
    obtain ⟨Fj39, hs⟩ : ∃ F, Sat _ _ _ (ow (⟨s⟩ : PCache) F :: _) := ⟨_, PCache.join (⟨s⟩ : PCache) (hs.sel (D := [ow s F]) Q2) ⟩
    try simp only [List.cons_append, List.nil_append] at hs
    refine RetD.mk hs Q1 ?_
    refine ⟨(⟨s⟩ : PCache), rfl, trivial, ?_, ?_⟩
    ·
     repeat' apply And.intro
     all_goals (try dsimp only)
     all_goals first | trivial | assumption | omega | ((try simp only [List.length_append, List.length_cons, List.length_nil, lsz_app, lsz_one, lsz_cons, lsz_nil, TAddr.size, TResponse.size, TRequest.size, TPolicy.size, TEntry.size, TCache.size, strsz, TServer.size, TFile.size, List.map_append, List.map_cons, List.map_nil, PServer.lg, PPolicy.lg, PCache.lg] at *); first | omega | assumption)
    ·
     exact hs.freshD (x := (⟨s⟩ : PCache)) (F := Fj39) Q2
  ·
   replace h2 := of_decide_eq_false h2
   refine WC.skip ?_
   refine At.blocknormal ?_
   refine At.then_ ?_
   refine WC.seq ?_
   refine WL.p Q0 (Yl.loadAB agg41 Q0 hs Q1 Q0 Q0) ?_
   refine WL.s (Yr.storeB hs Q0 Q0 Q0 Q5 Q3 Q0 (by exact szf41)) ?_
   clear hs; rintro _ w hs
   refine WL.next ?_
   refine WC.ret ?_
   refine fin1c rfl agg41 Q0 hs Q1 Q0 ?_
   obtain ⟨Fj40, hs⟩ : ∃ F, Sat _ _ _ (ow (⟨x2.entries⟩ : PCache) F :: _) := ⟨_, PCache.join (⟨x2.entries⟩ : PCache) (hs.sel (D := [ow x2.entries K3_0]) Q2) ⟩
   try simp only [List.cons_append, List.nil_append] at hs
   refine RetD.mk hs Q1 ?_
   refine ⟨(⟨x2.entries⟩ : PCache), rfl, trivial, ?_, ?_⟩
   ·
    repeat' apply And.intro
    all_goals (try dsimp only)
    all_goals first | trivial | assumption | omega | ((try simp only [List.length_append, List.length_cons, List.length_nil, lsz_app, lsz_one, lsz_cons, lsz_nil, TAddr.size, TResponse.size, TRequest.size, TPolicy.size, TEntry.size, TCache.size, strsz, TServer.size, TFile.size, List.map_append, List.map_cons, List.map_nil, PServer.lg, PPolicy.lg, PCache.lg] at *); first | omega | assumption)
   ·
    exact hs.freshD (x := (⟨x2.entries⟩ : PCache)) (F := Fj40) Q2

theorem c_spec_DrawStoreEntry (code : (Sl UInt8)) (w : World) (h_code : Ph.ok w code)  : Calls Tryd.prog 20 [Sl.v code].toArray w (Ret w (fun v w' => ∃ (x : PCache) (h : Str) (a : TAddr) (r : TResponse) (n : Int), v = .tuple #[.agg (Ph.enc x).toArray, S h, .agg (Ph.enc a).toArray, .agg (Ph.enc r).toArray, I n] ∧ (Ph.ok w' h ∧ Ph.ok w' a ∧ Ph.ok w' r ∧ Ph.ok w' n) ∧ (x.lg.size ≤ 20000 ∧ h ∈ ([[104, 111, 109, 101], [99, 100, 110], []] : List Str) ∧ a.size ≤ 14 ∧ r.size ≤ 1500 ∧ -1 ≤ n ∧ n ≤ 999999999001) ∧ Fresh w x w')) := by
 refine enterN 30 Tryd.func20 rfl rfl rfl ?_
 have hs := Sat.start w
 refine WC.seq ?_
 refine WL.r Q0 (Yr.alloc hs zt41) ?_
 clear hs; rintro _ w ⟨b1, rfl, hb, hs⟩; clear hb
 refine Qa ?_
 refine WL.r Q0 (Yr.alloc hs zt43) ?_
 clear hs; rintro _ w ⟨b2, rfl, hb, hs⟩; clear hb
 refine WL.r Q0 (Yr.alloc hs zt45) ?_
 clear hs; rintro _ w ⟨b3, rfl, hb, hs⟩; clear hb
 refine Qa ?_
 refine WL.next ?_
 refine WC.seq ?_
 refine Qm ?_
 refine WL.calln hs Q0 (Yc.func Q0 fn59) (c_spec_l1New _ _ (Ph.old h_code hs)) ?_
 clear hs; intro c4 w hs
 refine Qa ?_
 refine WL.next ?_
 refine WC.seq ?_
 refine Qm ?_
 refine WL.calld hs (T := 137) (b := code) (c := c4) Q2 Q0 (Yc.func Q0 fn67) (c_spec_l13Any c4 code _ (hs.cur Q1) (Apart.new (by first | assumption) hs Q1)) ?_
 clear hs; intro v w ho hR hs
 obtain ⟨x5, rfl, _, hx5, hf5⟩ := hR
 obtain ⟨F5, hs⟩ := hs.addF ho hf5
 clear ho hf5
 refine WL.r Q0 (Yr.alloc hs zt41) ?_
 clear hs; rintro _ w ⟨b6, rfl, hb, hs⟩; clear hb
 refine WL.s (Yr.storeB hs Q0 Q0 Q0 Q5 Q3 Q0 (by exact szf41)) ?_
 clear hs; rintro _ w hs
 refine WL.next ?_
 refine WC.seq ?_
 refine Qm ?_
 refine WL.r Q0 (Yr.buildSlice hs sll24 Q0 Q0 Q0 Q4 Q0) ?_
 clear hs; rintro _ w ⟨b7, rfl, hb, hs⟩; clear hb
 replace hs := Sat.boxow (l := ([([104, 111, 109, 101] : Str), ([99, 100, 110] : Str), ([] : Str)] : List Str)) (hs.sel (D := [box b7 _ _]) Q2) rfl rfl (by decide) (ownL_mk_flat (lit_str Q0))
 try simp only [List.cons_append, List.nil_append] at hs
 refine WL.calld hs (T := 137) (b := code) (c := c4) Q2 Q0 (Yc.func Q0 fn61) (c_spec_l1Str c4 code (⟨[([104, 111, 109, 101] : Str), ([99, 100, 110] : Str), ([] : Str)], some ⟨b7, 0, none⟩, 3⟩ : Sl Str) _ (Apart.own (s := (⟨[([104, 111, 109, 101] : Str), ([99, 100, 110] : Str), ([] : Str)], some ⟨b7, 0, none⟩, 3⟩ : Sl Str)) (F := [b7]) hs Q2) (by exact Nat.succ_pos _) (hs.cur Q1) (Apart.new (by first | assumption) hs Q1)) ?_
 clear hs; intro v w ho hR hs
 obtain ⟨x8, rfl, hokx8, hx8, hf8⟩ := hR
 clear ho hf8
 replace hx8 : x8 ∈ ([([104, 111, 109, 101] : Str), ([99, 100, 110] : Str), ([] : Str)] : List Str) := hx8
 have hn8 := mem_len 4 hx8 Q0
 refine Qa ?_
 refine WL.next ?_
 refine WC.seq ?_
 refine Qm ?_
 refine WL.calld hs (T := 137) (b := code) (c := c4) Q2 Q0 (Yc.func Q0 fn68) (c_spec_l4Any c4 code _ (hs.cur Q1) (Apart.new (by first | assumption) hs Q1)) ?_
 clear hs; intro v w ho hR hs
 obtain ⟨x9, rfl, hokx9, hx9, hf9⟩ := hR
 clear ho hf9
 have hn9 := hx9.1; have hm9 := hx9.2
 refine WL.r Q0 (Yr.alloc hs zt43) ?_
 clear hs; rintro _ w ⟨b10, rfl, hb, hs⟩; clear hb
 refine WL.s (Yr.storeB hs Q0 Q0 Q0 Q5 Q3 Q0 (by exact szf43)) ?_
 clear hs; rintro _ w hs
 refine WL.next ?_
 refine WC.seq ?_
 refine Qm ?_
 refine WL.calld hs (T := 137) (b := code) (c := c4) Q2 Q0 (Yc.func Q0 fn69) (c_spec_l10Any c4 code _ (hs.cur Q1) (Apart.new (by first | assumption) hs Q1)) ?_
 clear hs; intro v w ho hR hs
 obtain ⟨x11, rfl, hokx11, hx11, hf11⟩ := hR
 clear ho hf11
 refine WL.r Q0 (Yr.alloc hs zt45) ?_
 clear hs; rintro _ w ⟨b12, rfl, hb, hs⟩; clear hb
 refine WL.s (Yr.storeB hs Q0 Q0 Q0 Q5 Q3 Q0 (by exact szf45)) ?_
 clear hs; rintro _ w hs
 refine WL.next ?_
 refine WC.anynX (K := [box b1 _ _, box b2 _ _, box b3 _ _]) mixed hs Q2 ?_
 clear hs; intro w hs
 refine WA.p (i := 0) Q0 Q6 Q6 Q6 Q0 (hs.only Q2) (fun w hs => Yl.loadAB agg41 Q0 hs Q1 Q0 Q0) ?_
 refine WA.p (i := 1) Q0 Q6 Q6 Q6 Q0 (hs.only Q2) (fun w hs => Yl.move Q0) ?_
 refine WA.p (i := 2) Q0 Q6 Q6 Q6 Q0 (hs.only Q2) (fun w hs => Yl.loadAB agg43 Q0 hs Q1 Q0 Q0) ?_
 refine WA.p (i := 3) Q0 Q6 Q6 Q6 Q0 (hs.only Q2) (fun w hs => Yl.loadAB agg45 Q0 hs Q1 Q0 Q0) ?_
 refine WA.p (i := 4) Q0 Q6 Q6 Q6 Q0 (hs.only Q2) (fun w hs => Yl.move Q0) ?_
 refine WA.r (i := 5) Q6 Q0 Q0 (Yr.buildSlice hs sll96 Q0 Q0 Q0 Q4 Q0) (by rintro _ w ⟨b13, rfl, hb, hs⟩; exact hs.only Q2) ?_
 clear hs; rintro _ w ⟨b13, rfl, hb, hs⟩; clear hb
 replace hs := Sat.boxow (l := ([0, 7, (-1), 999999999000, 999999999001] : List Int)) (hs.sel (D := [box b13 _ _]) Q2) rfl rfl (by decide) (ownL_mk_flat (lit_int Q0))
 try simp only [List.cons_append, List.nil_append] at hs
 refine WA.calld (i := 6) hs (T := 137) (b := code) (c := c4) Q2 (fun _ hs => hs.only Q2) Q6 Q0 Q0 (Yc.func Q0 fn70) (c_spec_l1Int c4 code (⟨[0, 7, (-1), 999999999000, 999999999001], some ⟨b13, 0, none⟩, 5⟩ : Sl Int) _ (Apart.own (s := (⟨[0, 7, (-1), 999999999000, 999999999001], some ⟨b13, 0, none⟩, 5⟩ : Sl Int)) (F := [b13]) hs Q2) (by exact Nat.succ_pos _) (hs.cur Q1) (Apart.new (by first | assumption) hs Q1)) ?_
 clear hs; intro v w ho hR hs
 obtain ⟨x14, rfl, hokx14, hx14, hf14⟩ := hR
 clear ho hf14
 replace hx14 : x14 ∈ ([0, 7, (-1), 999999999000, 999999999001] : List Int) := hx14
 have hn14 := mem_int (-1) (999999999001) hx14 Q0
 refine WA.s (i := 7) Q6 Q0 (Yr.storeB hs Q0 Q0 Q0 Q5 Q3 Q0 (by exact szf41)) (by rintro _ w hs; exact hs.only Q2) ?_
 clear hs; rintro _ w hs
 refine WA.p (i := 8) Q0 Q6 Q6 Q6 Q0 (hs.only Q2) (fun w hs => Yl.assign Q0) ?_
 refine WA.s (i := 9) Q6 Q0 (Yr.storeB hs Q0 Q0 Q0 Q5 Q3 Q0 (by exact szf43)) (by rintro _ w hs; exact hs.only Q2) ?_
 clear hs; rintro _ w hs
 refine WA.s (i := 10) Q6 Q0 (Yr.storeB hs Q0 Q0 Q0 Q5 Q3 Q0 (by exact szf45)) (by rintro _ w hs; exact hs.only Q2) ?_
 clear hs; rintro _ w hs
 refine WA.p (i := 11) Q0 Q6 Q6 Q6 Q0 (hs.only Q2) (fun w hs => Yl.assign Q0) ?_
 refine WA.donen Q6 ?_
 refine WC.ret ?_
 refine finT (rs := [.cell 2 41, .tmp 3, .cell 4 43, .cell 5 45, .tmp 6]) (vs := [_, _, _, _, _]) rfl (by decide) hs (RV.cell agg41 Q0 Q1 Q0 (RV.tmp Q0 (RV.cell agg43 Q0 Q1 Q0 (RV.cell agg45 Q0 Q1 Q0 (RV.tmp Q0 RV.nil))))) ?_
 refine Ret.mk hs ?_
 refine ⟨x5, _, (⟨x9.host, x9.path⟩ : TAddr), (⟨x11.status, x11.kind, x11.body, x11.age, x11.shares, x11.policy⟩ : TResponse), _, rfl, ⟨(by first | exact (Flat.any hokx8) | trivial | assumption | exact Flat.any (by assumption) | exact ⟨by omega, by omega⟩ | (show WfS _; unfold WfS; omega) | (show WfS _; unfold WfS; simp only [List.length_append, List.length_cons, List.length_nil] at *; omega) | (refine Ph.old ?_ hs; assumption)), ⟨(by first | exact (Flat.any hokx9).host | trivial | assumption | exact Flat.any (by assumption) | exact ⟨by omega, by omega⟩ | (show WfS _; unfold WfS; omega) | (show WfS _; unfold WfS; simp only [List.length_append, List.length_cons, List.length_nil] at *; omega) | (refine Ph.old ?_ hs; assumption)), (by first | exact (Flat.any hokx9).path | trivial | assumption | exact Flat.any (by assumption) | exact ⟨by omega, by omega⟩ | (show WfS _; unfold WfS; omega) | (show WfS _; unfold WfS; simp only [List.length_append, List.length_cons, List.length_nil] at *; omega) | (refine Ph.old ?_ hs; assumption))⟩, ⟨(by first | exact (Flat.any hokx11).status | trivial | assumption | exact Flat.any (by assumption) | exact ⟨by omega, by omega⟩ | (show WfS _; unfold WfS; omega) | (show WfS _; unfold WfS; simp only [List.length_append, List.length_cons, List.length_nil] at *; omega) | (refine Ph.old ?_ hs; assumption)), (by first | exact (Flat.any hokx11).kind | trivial | assumption | exact Flat.any (by assumption) | exact ⟨by omega, by omega⟩ | (show WfS _; unfold WfS; omega) | (show WfS _; unfold WfS; simp only [List.length_append, List.length_cons, List.length_nil] at *; omega) | (refine Ph.old ?_ hs; assumption)), (by first | exact (Flat.any hokx11).body | trivial | assumption | exact Flat.any (by assumption) | exact ⟨by omega, by omega⟩ | (show WfS _; unfold WfS; omega) | (show WfS _; unfold WfS; simp only [List.length_append, List.length_cons, List.length_nil] at *; omega) | (refine Ph.old ?_ hs; assumption)), (by first | exact (Flat.any hokx11).age | trivial | assumption | exact Flat.any (by assumption) | exact ⟨by omega, by omega⟩ | (show WfS _; unfold WfS; omega) | (show WfS _; unfold WfS; simp only [List.length_append, List.length_cons, List.length_nil] at *; omega) | (refine Ph.old ?_ hs; assumption)), (by first | exact (Flat.any hokx11).shares | trivial | assumption | exact Flat.any (by assumption) | exact ⟨by omega, by omega⟩ | (show WfS _; unfold WfS; omega) | (show WfS _; unfold WfS; simp only [List.length_append, List.length_cons, List.length_nil] at *; omega) | (refine Ph.old ?_ hs; assumption)), (by first | exact (Flat.any hokx11).policy | trivial | assumption | exact Flat.any (by assumption) | exact ⟨by omega, by omega⟩ | (show WfS _; unfold WfS; omega) | (show WfS _; unfold WfS; simp only [List.length_append, List.length_cons, List.length_nil] at *; omega) | (refine Ph.old ?_ hs; assumption))⟩, (by first | exact (Flat.any hokx14) | trivial | assumption | exact Flat.any (by assumption) | exact ⟨by omega, by omega⟩ | (show WfS _; unfold WfS; omega) | (show WfS _; unfold WfS; simp only [List.length_append, List.length_cons, List.length_nil] at *; omega) | (refine Ph.old ?_ hs; assumption))⟩, ?_, ?_⟩
 ·
  repeat' apply And.intro
  all_goals (try dsimp only)
  all_goals first | trivial | assumption | omega | ((try simp only [List.length_append, List.length_cons, List.length_nil, lsz_app, lsz_one, lsz_cons, lsz_nil, TAddr.size, TResponse.size, TRequest.size, TPolicy.size, TEntry.size, TCache.size, strsz, TServer.size, TFile.size, List.map_append, List.map_cons, List.map_nil, PServer.lg, PPolicy.lg, PCache.lg] at *); first | omega | assumption)
 ·
  exact hs.fresh (x := x5) (F := F5) Q1

theorem c_slices_IndexFunc___string_string_ (s : (Sl Str)) (f : FuncId) (us_f : List Value) (p_f : Str → Bool) (w : World) (h_s : Ph.ok w s)  (hfn_f : FN Tryd.prog f) (hf_f : ∀ x ∈ s.l, ∀ w', Below w.heap.size w w' → Calls Tryd.prog f (([S x] : List Value) ++ us_f).toArray w' (RetP w' (Bo (p_f x)))) : Calls Tryd.prog 137 [Sl.v s, .func (.func f) #[] us_f.toArray].toArray w (RetP w (I (idxF (p_f) s.l 0))) := by
 have hw := h_s.lt
 refine enterN 19 Tryd.func137 rfl rfl rfl ?_
 have hs := Sat.start w
 refine WC.seq ?_
 refine Qa ?_
 refine WL.next ?_
 refine WC.seq' ?_
 refine WC.seq ?_
 refine Qm ?_
 refine WL.p Q0 (Yl.len_sl slu24 Q0) ?_
 refine Qm ?_
 refine WL.next ?_
 refine WC.block ?_
 refine WC.loopC (ι := Nat) (fun k => s.l.length - k) (fun k => [(8, I (k : Int))]) (fun _ => []) (fun k => idxF (p_f) s.l 0 = idxF (p_f) (s.l.drop k) k) [(0, _), (1, _), (7, _)] 0 (hs) ⟨by rfl, by rfl, by rfl, trivial⟩ ⟨by rfl, trivial⟩ ?_ ?_
 ·
  simp
 clear hs; rintro k w hJ hs
 simp only [List.nil_append] at hs
 refine WC.seq ?_
 refine WL.p Q0 (Yl.lss Q0 Q0) ?_
 refine WL.next ?_
 refine WC.seq' ?_
 refine WC.condS Q0 (fun h1 => ?_) (fun h1 => ?_)
 ·
  replace h1 := of_decide_eq_true h1
  obtain ⟨d, hd⟩ := exists_get (l := s.l) (k := k) Q7
  rw [drop_cons hd] at hJ
  refine WC.skipn ?_
  refine WC.seq' ?_
  refine WC.block ?_
  refine WC.seq ?_
  refine Qm ?_
  refine Qa ?_
  refine WL.next ?_
  refine WC.seq ?_
  refine Qm ?_
  refine Qm ?_
  refine Qm ?_
  refine WL.p Q0 (Yl.indexAddr slt24 Q0 Q0 (Ph.old h_s hs) Q0 (hd)) ?_
  refine WL.p Q0 (Yl.loadC0 sca9 Q0 (Sl.Ok.at_ (Ph.old h_s hs) (by assumption)).2 Q0) ?_
  refine WL.callp hs Q0 (Yc.value Q0 Q0 hfn_f Q0) (hf_f _ (List.mem_of_getElem? (by assumption)) _ hs.below) ?_
  clear hs; intro w hs
  refine WL.next ?_
  refine WC.condS Q0 (fun h2 => ?_) (fun h2 => ?_)
  ·
   refine WC.seq ?_
   refine Qm ?_
   refine Qa ?_
   refine WL.next ?_
   refine WC.ret ?_
   refine At.blockret ?_
   refine At.thenret ?_
   refine At.thenret ?_
   refine At.blockret ?_
   refine At.thenret ?_
   refine fin1' rfl Q0 ?_
   refine RetP.mk hs ?_
   rw [hJ]; simp_all [idxF]
  ·
   refine WC.skip ?_
   refine At.blocknormal ?_
   refine At.then_ ?_
   refine WC.region ?_
   refine WL.p Q0 (Yl.add Q0 Q0 Q7) ?_
   refine Qm ?_
   refine WL.nil ?_
   refine At.roundC (k + 1) (hs.only Q2) ⟨by rfl, by rfl, by rfl, trivial⟩ ⟨by rfl, trivial⟩ ?_ ?_
   ·
    omega
   ·
    rw [hJ]; simp_all [idxF]
 ·
  replace h1 := of_decide_eq_false h1
  rw [drop_out (l := s.l) Q7] at hJ
  refine WC.exit ?_
  refine At.thenexit ?_
  refine At.thenexit ?_
  refine At.blockexit ?_
  refine At.then_ ?_
  refine WC.seq ?_
  refine Qa ?_
  refine WL.next ?_
  refine WC.ret ?_
  refine fin1' rfl Q0 ?_
  refine RetP.mk hs ?_
  rw [hJ]; simp_all [idxF]

theorem c_slices_ContainsFunc___string_string_ (s : (Sl Str)) (f : FuncId) (us_f : List Value) (p_f : Str → Bool) (w : World) (h_s : Ph.ok w s)  (hfn_f : FN Tryd.prog f) (hf_f : ∀ x ∈ s.l, ∀ w', Below w.heap.size w w' → Calls Tryd.prog f (([S x] : List Value) ++ us_f).toArray w' (RetP w' (Bo (p_f x)))) : Calls Tryd.prog 110 [Sl.v s, .func (.func f) #[] us_f.toArray].toArray w (RetP w (Bo (s.l.any p_f))) := by
 refine enterN 9 Tryd.func110 rfl rfl rfl ?_
 have hs := Sat.start w
 refine WC.seq ?_
 refine Qa ?_
 refine WL.next ?_
 refine WC.seq ?_
 refine Qm ?_
 refine Qm ?_
 refine WL.callp hs Q0 (Yc.func Q0 fn137) (c_slices_IndexFunc___string_string_ _ _ _ p_f _ (Ph.old h_s hs) hfn_f (fun x hx w1 hb1 => hf_f x hx w1 (hs.ext hb1).below)) ?_
 clear hs; intro w hs
 refine WL.p Q0 (Yl.geq Q0 Q0) ?_
 refine Qa ?_
 refine WL.next ?_
 refine WC.ret ?_
 refine fin1' rfl Q0 ?_
 refine RetP.mk hs ?_
 simp only [ge_iff_le, idxF_any]

theorem c_impl_InRange (n : Int) (low : Int) (high : Int) (w : World)   : Calls Tryd.prog 73 [I n, I low, I high].toArray w (RetP w (Bo (inR n low high))) := by
 refine enterN 15 Tryd.func73 rfl rfl rfl ?_
 have hs := Sat.start w
 refine WC.seq ?_
 refine Qa ?_
 refine WL.next ?_
 refine WC.seq ?_
 refine Qm ?_
 refine Qm ?_
 refine WL.p Q0 (Yl.leq Q0 Q0) ?_
 refine Qm ?_
 refine WL.split (d := 10) Q0 (fun h1 => ?_) (fun h1 => ?_)
 ·
  replace h1 := of_decide_eq_true h1
  refine WL.run (d := 10) Q0 Q0 ?_
  refine Qm ?_
  refine WL.run (d := 10) Q0 Q0 ?_
  refine Qm ?_
  refine WL.run (d := 10) Q0 Q0 ?_
  refine WL.p Q0 (Yl.leq Q0 Q0) ?_
  refine WL.p Q0 (Yl.pickT Q0 Q0) ?_
  refine Qa ?_
  refine WL.next ?_
  refine WC.ret ?_
  refine fin1' rfl Q0 ?_
  refine RetP.mk hs ?_
  simp [inR, h1]
 ·
  replace h1 := of_decide_eq_false h1
  refine WL.skip (d := 10) Q0 Q0 Q0 Q0 ?_
  refine WL.skip (d := 10) Q0 Q0 Q0 Q0 ?_
  refine WL.skip (d := 10) Q0 Q0 Q0 Q0 ?_
  refine WL.p Q0 (Yl.pickF Q0 Q0) ?_
  refine Qa ?_
  refine WL.next ?_
  refine WC.ret ?_
  refine fin1' rfl Q0 ?_
  refine RetP.mk hs ?_
  rw [inR_false.2 Q7]

theorem c_impl_IsName (s : Str) (w : World) (h_s : Ph.ok w s)  : Calls Tryd.prog 83 [S s].toArray w (RetP w (Bo (isName s))) := by
 have hw : s.length ≤ 9223372036854775807 := h_s
 refine enterN 23 Tryd.func83 rfl rfl rfl ?_
 have hs := Sat.start w
 refine WC.seq ?_
 refine Qa ?_
 refine WL.next ?_
 refine WC.seq' ?_
 refine WC.seq ?_
 refine Qa ?_
 refine WL.next ?_
 refine WC.block ?_
 refine WC.loopC (ι := Nat) (fun k => s.length - k) (fun k => [(3, I (k : Int))]) (fun _ => []) (fun k => s.all lower = (s.drop k).all lower) [(0, _)] 0 (hs) ⟨by rfl, trivial⟩ ⟨by rfl, trivial⟩ ?_ ?_
 ·
  simp
 clear hs; rintro k w hJ hs
 simp only [List.nil_append] at hs
 refine WC.seq' ?_
 refine WC.seq ?_
 refine Qm ?_
 refine Qm ?_
 refine WL.p Q0 (Yl.len_str str9 Q0) ?_
 refine WL.p Q0 (Yl.lss Q0 Q0) ?_
 refine WL.next ?_
 refine WC.condS Q0 (fun h1 => ?_) (fun h1 => ?_)
 ·
  replace h1 := of_decide_eq_true h1
  obtain ⟨d, hd⟩ := exists_get (l := s) (k := k) Q7
  rw [drop_cons hd] at hJ
  refine WC.skipn ?_
  refine WC.seq' ?_
  refine WC.block ?_
  refine WC.seq ?_
  refine Qm ?_
  refine Qm ?_
  refine WL.p Q0 (Yl.index str9 Q0 Q0 Q0 (by first | assumption | exact List.getElem?_eq_getElem Q7)) ?_
  refine WL.p Q0 (Yl.lss Q0 Q0) ?_
  refine Qm ?_
  refine WL.split (d := 14) Q0 (fun h2 => ?_) (fun h2 => ?_)
  ·
   replace h2 := of_decide_eq_true h2
   refine WL.skip (d := 14) Q0 Q0 Q0 Q0 ?_
   refine WL.skip (d := 14) Q0 Q0 Q0 Q0 ?_
   refine WL.skip (d := 14) Q0 Q0 Q0 Q0 ?_
   refine WL.skip (d := 14) Q0 Q0 Q0 Q0 ?_
   refine WL.p Q0 (Yl.pickT Q0 Q0) ?_
   refine WL.next ?_
   refine WC.condT Q0 ?_
   refine WC.seq ?_
   refine Qa ?_
   refine WL.next ?_
   refine WC.ret ?_
   refine At.blockret ?_
   refine At.thenret ?_
   refine At.thenret ?_
   refine At.blockret ?_
   refine At.thenret ?_
   refine fin1' rfl Q0 ?_
   refine RetP.mk hs ?_
   first
    | (simp [isName, hJ, lower]; done)
    | (simp [isName, hJ, lower]; omega)
    | simp_all [isName, hJ, lower]
  ·
   replace h2 := of_decide_eq_false h2
   refine WL.run (d := 14) Q0 Q0 ?_
   refine Qm ?_
   refine WL.run (d := 14) Q0 Q0 ?_
   refine Qm ?_
   refine WL.run (d := 14) Q0 Q0 ?_
   refine WL.p Q0 (Yl.index str9 Q0 Q0 Q0 (by first | assumption | exact List.getElem?_eq_getElem Q7)) ?_
   refine WL.run (d := 14) Q0 Q0 ?_
   refine WL.p Q0 (Yl.gtr Q0 Q0) ?_
   refine WL.p Q0 (Yl.pickF Q0 Q0) ?_
   refine WL.next ?_
   refine WC.condS Q0 (fun h3 => ?_) (fun h3 => ?_)
   ·
    replace h3 := of_decide_eq_true h3
    refine WC.seq ?_
    refine Qa ?_
    refine WL.next ?_
    refine WC.ret ?_
    refine At.blockret ?_
    refine At.thenret ?_
    refine At.thenret ?_
    refine At.blockret ?_
    refine At.thenret ?_
    refine fin1' rfl Q0 ?_
    refine RetP.mk hs ?_
    first
     | (simp [isName, hJ, lower]; done)
     | (simp [isName, hJ, lower]; omega)
     | simp_all [isName, hJ, lower]
   ·
    replace h3 := of_decide_eq_false h3
    refine WC.skip ?_
    refine At.blocknormal ?_
    refine At.then_ ?_
    refine WC.region ?_
    refine Qm ?_
    refine WL.p Q0 (Yl.add Q0 Q0 Q7) ?_
    refine Qa ?_
    refine WL.nil ?_
    refine At.roundC (k + 1) (hs.only Q2) ⟨by rfl, trivial⟩ ⟨by rfl, trivial⟩ ?_ ?_
    ·
     omega
    ·
     rw [hJ]; simp [lower]; omega
 ·
  replace h1 := of_decide_eq_false h1
  rw [drop_out (l := s) Q7] at hJ
  refine WC.exit ?_
  refine At.thenexit ?_
  refine At.thenexit ?_
  refine At.blockexit ?_
  refine At.then_ ?_
  refine WC.seq ?_
  refine Qm ?_
  refine WL.p Q0 (Yl.len_str str9 Q0) ?_
  refine WL.callp hs Q0 (Yc.func Q0 fn73) (c_impl_InRange _ _ _ _) ?_
  clear hs; intro w hs
  refine Qa ?_
  refine WL.next ?_
  refine WC.ret ?_
  refine fin1' rfl Q0 ?_
  refine RetP.mk hs ?_
  first
   | (simp [isName, hJ, lower]; done)
   | (simp [isName, hJ, lower]; omega)
   | simp_all [isName, hJ, lower]

theorem c_impl_areHosts_1 (s : Str) (w : World) (h_s : Ph.ok w s)  : Calls Tryd.prog 111 [S s].toArray w (RetP w (Bo (!isName s))) := by
 refine enterN 6 Tryd.func111 rfl rfl rfl ?_
 have hs := Sat.start w
 refine WC.seq ?_
 refine Qa ?_
 refine WL.next ?_
 refine WC.seq ?_
 refine Qm ?_
 refine WL.callp hs Q0 (Yc.func Q0 fn83) (c_impl_IsName _ _ (Ph.old h_s hs)) ?_
 clear hs; intro w hs
 refine WL.p Q0 (Yl.not Q0) ?_
 refine Qa ?_
 refine WL.next ?_
 refine WC.ret ?_
 refine fin1' rfl Q0 ?_
 refine RetP.mk hs ?_
 simp_all

theorem c_impl_areHosts (l : (Sl Str)) (w : World) (h_l : Ph.ok w l)  : Calls Tryd.prog 54 [Sl.v l].toArray w (RetP w (Bo (hosts l.l))) := by
 have hw := h_l.lt
 refine enterN 11 Tryd.func54 rfl rfl rfl ?_
 have hs := Sat.start w
 refine WC.seq ?_
 refine Qa ?_
 refine WL.next ?_
 refine WC.seq ?_
 refine Qm ?_
 refine WL.p Q0 (Yl.len_sl slu24 Q0) ?_
 refine WL.p Q0 (Yl.leq Q0 Q0) ?_
 refine Qm ?_
 refine WL.split (d := 6) Q0 (fun h1 => ?_) (fun h1 => ?_)
 ·
  replace h1 := of_decide_eq_true h1
  refine WL.run (d := 6) Q0 Q0 ?_
  refine Qm ?_
  refine WL.run (d := 6) Q0 Q0 ?_
  refine WL.callp hs Q0 (Yc.func Q0 fn110) (c_slices_ContainsFunc___string_string_ _ 111 _ (fun x => !isName x) _ (Ph.old h_l hs) fn111 (fun x hx w1 hb1 => c_impl_areHosts_1 x w1 (Ph.ext hb1 ((Ph.old h_l hs).elems x hx)))) ?_
  clear hs; intro w hs
  refine WL.run (d := 6) Q0 Q0 ?_
  refine WL.p Q0 (Yl.not Q0) ?_
  refine WL.p Q0 (Yl.pickT Q0 Q0) ?_
  refine Qa ?_
  refine WL.next ?_
  refine WC.ret ?_
  refine fin1' rfl Q0 ?_
  refine RetP.mk hs ?_
  rw [any_not_all]
  simp [hosts]; omega
 ·
  replace h1 := of_decide_eq_false h1
  refine WL.skip (d := 6) Q0 Q0 Q0 Q0 ?_
  refine WL.skip (d := 6) Q0 Q0 Q0 Q0 ?_
  refine WL.skip (d := 6) Q0 Q0 Q0 Q0 ?_
  refine WL.p Q0 (Yl.pickF Q0 Q0) ?_
  refine Qa ?_
  refine WL.next ?_
  refine WC.ret ?_
  refine fin1' rfl Q0 ?_
  refine RetP.mk hs ?_
  simp [hosts]; omega

end Go.Sw
