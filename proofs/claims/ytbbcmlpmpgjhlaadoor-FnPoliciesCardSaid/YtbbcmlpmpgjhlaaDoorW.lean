/- Walks: what each function of the program returns, for every input. Printed by gen.py. -/
import Derived.Test.YtbbcmlpmpgjhlaaDoorW0
set_option linter.all false
namespace Go.Sw
open Go Go.RowKit Go.Proofs

theorem c_spec_ParsePolicy (s : Str) (w : World)  (hb : s.length ≤ 1048576) : Calls Tryd.prog 15 [S s].toArray w (Ret w (fun v w' => ∃ x : PPolicy, v = .tuple #[.agg (Ph.enc x).toArray, Bo (policyIs s)] ∧ x.lg = policyOf s ∧ Fresh w x w')) := by
 refine enterN 52 Tryd.func15 rfl rfl rfl ?_
 have hs := Sat.start w
 refine WC.seq ?_
 refine WL.r Q0 (Yr.alloc hs zt26) ?_
 clear hs; rintro _ w ⟨b1, rfl, hb, hs⟩; clear hb
 refine Qa ?_
 refine WL.next ?_
 refine WC.seq' ?_
 refine WC.seq ?_
 refine Qm ?_
 refine WL.p Q0 (Yl.eqs Q0 Q0) ?_
 refine WL.next ?_
 refine WC.condS Q0 (fun h1 => ?_) (fun h1 => ?_)
 ·
  replace h1 := of_decide_eq_true h1
  refine WC.seq ?_
  refine WL.p Q0 (Yl.build bt26 Q0 Q4) ?_
  refine WL.s (Yr.storeB hs Q0 Q0 Q0 Q5 Q3 Q0 (by exact szf26)) ?_
  clear hs; rintro _ w hs
  refine Qa ?_
  refine WL.next ?_
  refine WC.ret ?_
  refine At.thenret ?_
  refine fin2c rfl agg26 Q0 Q0 hs Q1 Q0 ?_
  refine Ret.mk hs ?_
  have hb9 : policyIs s = true := policyIs_nil h1
  exact ⟨⟨false, ⟨[], none, 0⟩, ⟨[], none, 0⟩, ⟨[], none, 0⟩, []⟩, by rw [hb9]; rfl, (policyOf_no (.inl h1)).symm, ⟨⟨[], PPolicy.zown _, .nil, fun b h => by cases h⟩⟩⟩
 ·
  replace h1 := of_decide_eq_false h1
  refine WC.skipn ?_
  refine WC.seq ?_
  refine Qm ?_
  refine WL.call hs Q0 (Yc.func Q0 fn64) (c_spec_l5Split _ 59 _ Q10) ?_
  have hs0 := hs; clear hs; intro v w hb hR hs; clear hs
  obtain ⟨x2, rfl, hx2, hf2⟩ := hR
  obtain ⟨F2, hs⟩ := hf2.sat hs0 hb; clear hs0 hf2
  have hle2 := Sl.Ok.le (hs.okow (x := x2) (F := F2) Q1)
  refine Qa ?_
  refine WL.next ?_
  refine WC.seq' ?_
  refine WC.seq ?_
  refine Qm ?_
  refine WL.p Q0 (Yl.len_sl slu24 Q0) ?_
  refine WL.p Q0 (Yl.lss Q0 Q0) ?_
  refine WL.next ?_
  refine WC.condS Q0 (fun h2 => ?_) (fun h2 => ?_)
  ·
   replace h2 := of_decide_eq_true h2
   refine WC.seq ?_
   refine WL.p Q0 (Yl.build bt26 Q0 Q4) ?_
   refine WL.s (Yr.storeB hs Q0 Q0 Q0 Q5 Q3 Q0 (by exact szf26)) ?_
   clear hs; rintro _ w hs
   refine Qa ?_
   refine WL.next ?_
   refine WC.ret ?_
   refine At.thenret ?_
   refine fin2c rfl agg26 Q0 Q0 hs Q1 Q0 ?_
   refine Ret.mk hs ?_
   have hb9 : policyIs s = false := policyIs_short h1 (by rw [← show x2.l = splitC 59 s from hx2]; omega)
   exact ⟨⟨false, ⟨[], none, 0⟩, ⟨[], none, 0⟩, ⟨[], none, 0⟩, []⟩, by rw [hb9]; rfl, (policyOf_no (.inr hb9)).symm, ⟨⟨[], PPolicy.zown _, .nil, fun b h => by cases h⟩⟩⟩
  ·
   replace h2 := of_decide_eq_false h2
   have h39 := getD_len (s := s) (i := 3)
   rw [← show x2.l = splitC 59 s from hx2] at h39
   refine WC.skipn ?_
   refine WC.anyn mixed hs ?_
   clear hs; intro w hs
   refine WA.p (i := 0) Q0 Q6 Q6 Q6 Q0 (hs.only Q2) (fun w hs => Yl.move Q0) ?_
   refine WA.p (i := 1) Q0 Q6 Q6 Q6 Q0 (hs.only Q2) (fun w hs => Yl.indexAddr (k := 0) slt24 Q0 Q0 (hs.okow (x := x2) (F := F2) Q1) Q0 ((getD_some (i := 0) (z := ([] : Str)) Q7))) ?_
   refine WA.p (i := 2) Q0 Q6 Q6 Q6 Q0 (hs.only Q2) (fun w hs => Yl.loadC0 sca9 Q0 (Sl.Ok.at_ (hs.okow (x := x2) (F := F2) Q1) ((getD_some (i := 0) (z := ([] : Str)) Q7))).2 Q0) ?_
   refine WA.p (i := 5) Q0 Q6 Q6 Q6 Q0 (hs.only Q2) (fun w hs => Yl.move Q0) ?_
   refine WA.p (i := 6) Q0 Q6 Q6 Q6 Q0 (hs.only Q2) (fun w hs => Yl.indexAddr (k := 1) slt24 Q0 Q0 (hs.okow (x := x2) (F := F2) Q1) Q0 ((getD_some (i := 1) (z := ([] : Str)) Q7))) ?_
   refine WA.p (i := 7) Q0 Q6 Q6 Q6 Q0 (hs.only Q2) (fun w hs => Yl.loadC0 sca9 Q0 (Sl.Ok.at_ (hs.okow (x := x2) (F := F2) Q1) ((getD_some (i := 1) (z := ([] : Str)) Q7))).2 Q0) ?_
   refine WA.p (i := 10) Q0 Q6 Q6 Q6 Q0 (hs.only Q2) (fun w hs => Yl.move Q0) ?_
   refine WA.p (i := 11) Q0 Q6 Q6 Q6 Q0 (hs.only Q2) (fun w hs => Yl.indexAddr (k := 2) slt24 Q0 Q0 (hs.okow (x := x2) (F := F2) Q1) Q0 ((getD_some (i := 2) (z := ([] : Str)) Q7))) ?_
   refine WA.p (i := 12) Q0 Q6 Q6 Q6 Q0 (hs.only Q2) (fun w hs => Yl.loadC0 sca9 Q0 (Sl.Ok.at_ (hs.okow (x := x2) (F := F2) Q1) ((getD_some (i := 2) (z := ([] : Str)) Q7))).2 Q0) ?_
   refine WA.two (i := 3) (j := 16) Q6 ?_ ?_
   ·
    refine WI.call2 (i := 3) hs (fun _ hs => hs.only Q2) Q0 Q0 (Yc.func Q0 fn64) (c_spec_l5Split _ 32 _ (by first | (have := getD_len (s := s) (i := 0); rw [← show x2.l = splitC 59 s from hx2] at this; omega) | (have := getD_len (s := s) (i := 1); rw [← show x2.l = splitC 59 s from hx2] at this; omega) | (have := getD_len (s := s) (i := 2); rw [← show x2.l = splitC 59 s from hx2] at this; omega) | (have := getD_len (s := s) (i := 3); rw [← show x2.l = splitC 59 s from hx2] at this; omega))) ?_
    have hs0 := hs; clear hs; intro v w hb hR hs; clear hs
    obtain ⟨x3, rfl, hx3, hf3⟩ := hR
    obtain ⟨F3, hs⟩ := hf3.sat hs0 hb; clear hs0 hf3
    have hle3 := Sl.Ok.le (hs.okow (x := x3) (F := F3) Q1)
    refine WA.p (i := 4) Q0 Q6 Q6 Q6 Q0 (hs.only Q2) (fun w hs => Yl.slice_sl (s := x3) (l := 1) (h := x3.l.length) slt24 Q0 hle3 (by exact ⟨_, by rfl⟩) (by exact rfl) (by rw [hx3]; exact List.length_pos_iff.2 (splitC_ne _ _)) (by exact Nat.le_refl _)) ?_
    refine WA.two (i := 8) (j := 16) Q6 ?_ ?_
    ·
     refine WI.call2 (i := 8) hs (fun _ hs => hs.only Q2) Q0 Q0 (Yc.func Q0 fn64) (c_spec_l5Split _ 32 _ (by first | (have := getD_len (s := s) (i := 0); rw [← show x2.l = splitC 59 s from hx2] at this; omega) | (have := getD_len (s := s) (i := 1); rw [← show x2.l = splitC 59 s from hx2] at this; omega) | (have := getD_len (s := s) (i := 2); rw [← show x2.l = splitC 59 s from hx2] at this; omega) | (have := getD_len (s := s) (i := 3); rw [← show x2.l = splitC 59 s from hx2] at this; omega))) ?_
     have hs0 := hs; clear hs; intro v w hb hR hs; clear hs
     obtain ⟨x4, rfl, hx4, hf4⟩ := hR
     obtain ⟨F4, hs⟩ := hf4.sat hs0 hb; clear hs0 hf4
     have hle4 := Sl.Ok.le (hs.okow (x := x4) (F := F4) Q1)
     refine WA.p (i := 9) Q0 Q6 Q6 Q6 Q0 (hs.only Q2) (fun w hs => Yl.slice_sl (s := x4) (l := 1) (h := x4.l.length) slt24 Q0 hle4 (by exact ⟨_, by rfl⟩) (by exact rfl) (by rw [hx4]; exact List.length_pos_iff.2 (splitC_ne _ _)) (by exact Nat.le_refl _)) ?_
     refine WA.two (i := 13) (j := 16) Q6 ?_ ?_
     ·
      refine WI.call2 (i := 13) hs (fun _ hs => hs.only Q2) Q0 Q0 (Yc.func Q0 fn64) (c_spec_l5Split _ 32 _ (by first | (have := getD_len (s := s) (i := 0); rw [← show x2.l = splitC 59 s from hx2] at this; omega) | (have := getD_len (s := s) (i := 1); rw [← show x2.l = splitC 59 s from hx2] at this; omega) | (have := getD_len (s := s) (i := 2); rw [← show x2.l = splitC 59 s from hx2] at this; omega) | (have := getD_len (s := s) (i := 3); rw [← show x2.l = splitC 59 s from hx2] at this; omega))) ?_
      have hs0 := hs; clear hs; intro v w hb hR hs; clear hs
      obtain ⟨x5, rfl, hx5, hf5⟩ := hR
      obtain ⟨F5, hs⟩ := hf5.sat hs0 hb; clear hs0 hf5
      have hle5 := Sl.Ok.le (hs.okow (x := x5) (F := F5) Q1)
      refine WA.p (i := 14) Q0 Q6 Q6 Q6 Q0 (hs.only Q2) (fun w hs => Yl.slice_sl (s := x5) (l := 1) (h := x5.l.length) slt24 Q0 hle5 (by exact ⟨_, by rfl⟩) (by exact rfl) (by rw [hx5]; exact List.length_pos_iff.2 (splitC_ne _ _)) (by exact Nat.le_refl _)) ?_
      refine WA.p (i := 15) Q0 Q6 Q6 Q6 Q0 (hs.only Q2) (fun w hs => Yl.build bt26 Q0 Q4) ?_
      refine WA.r (i := 16) Q6 Q0 Q0 (Yr.alloc hs zt26) (by rintro _ w ⟨b6, rfl, hb, hs⟩; exact hs.only Q2) ?_
      clear hs; rintro _ w ⟨b6, rfl, hb, hs⟩; clear hb
      refine WA.s (i := 17) Q6 Q0 (Yr.storeB hs Q0 Q0 Q0 Q5 Q3 Q0 (by exact szf26)) (by rintro _ w hs; exact hs.only Q2) ?_
      clear hs; rintro _ w hs
      refine WA.donen Q6 ?_
      refine WC.seq' ?_
      refine WC.seq ?_
      refine Qm ?_
      refine WL.p Q0 (Yl.len_sl slu24 Q0) ?_
      refine WL.p Q0 (Yl.gtr Q0 Q0) ?_
      refine Qm ?_
      refine WL.split (d := 34) Q0 (fun h3 => ?_) (fun h3 => ?_)
      ·
       replace h3 := of_decide_eq_true h3
       refine WL.run (d := 34) Q0 Q0 ?_
       refine Qm ?_
       refine WL.run (d := 34) Q0 Q0 ?_
       refine WL.p Q0 (Yl.indexAddr (k := 3) slt24 Q0 Q0 (hs.okow (x := x2) (F := F2) Q1) Q0 ((getD_some (i := 3) (z := ([] : Str)) Q7))) ?_
       refine WL.run (d := 34) Q0 Q0 ?_
       refine WL.p Q0 (Yl.loadC0 sca9 Q0 (Sl.Ok.at_ (hs.okow (x := x2) (F := F2) Q1) ((getD_some (i := 3) (z := ([] : Str)) Q7))).2 Q0) ?_
       refine WL.run (d := 34) Q0 Q0 ?_
       refine WL.p Q0 (Yl.len_str str9 Q0) ?_
       refine WL.run (d := 34) Q0 Q0 ?_
       refine WL.p Q0 (Yl.gtr Q0 Q0) ?_
       refine WL.p Q0 (Yl.pickT Q0 Q0) ?_
       refine WL.next ?_
       refine WC.condS Q0 (fun h4 => ?_) (fun h4 => ?_)
       ·
        replace h4 := of_decide_eq_true h4
        refine WC.region ?_
        refine Qm ?_
        refine WL.p Q0 (Yl.indexAddr (k := 3) slt24 Q0 Q0 (hs.okow (x := x2) (F := F2) Q1) Q0 ((getD_some (i := 3) (z := ([] : Str)) Q7))) ?_
        refine WL.p Q0 (Yl.loadC0 sca9 Q0 (Sl.Ok.at_ (hs.okow (x := x2) (F := F2) Q1) ((getD_some (i := 3) (z := ([] : Str)) Q7))).2 Q0) ?_
        refine WL.p Q0 (Yl.slice_str (l := 6) str9 Q0 (by exact ⟨_, by rfl⟩) (by exact rfl) Q7 Q7) ?_
        refine WL.p Q0 (Yl.fieldAddr fa26_4 Q0) ?_
        refine WL.s (Yr.storeB hs Q0 Q0 Q0 Q5 Q3 Q0 (by exact szf9)) ?_
        clear hs; rintro _ w hs
        refine WL.nil ?_
        refine At.then_ ?_
        refine WC.seq' ?_
        refine WC.seq ?_
        refine WL.p Q0 (Yl.loadAB agg26 Q0 hs Q1 Q0 Q0) ?_
        have hpl9 : PPolicy.lg (⟨true, (x3.cut 1 x3.l.length), (x4.cut 1 x4.l.length), (x5.cut 1 x5.l.length), (((x2.l.getD 3 []).drop 6).take ((x2.l.getD 3 []).length - 6))⟩ : PPolicy) = polS s := by
         have e2 : x2.l = splitC 59 s := hx2
         have g0 : x3.l = splitC 32 ((splitC 59 s).getD 0 []) := by rw [← e2]; exact hx3
         have g1 : x4.l = splitC 32 ((splitC 59 s).getD 1 []) := by rw [← e2]; exact hx4
         have g2 : x5.l = splitC 32 ((splitC 59 s).getD 2 []) := by rw [← e2]; exact hx5
         have c0 : (x3.cut 1 x3.l.length).l = (splitC 32 ((splitC 59 s).getD 0 [])).tail := by rw [Sl.cut_full, g0, List.drop_one]
         have c1 : (x4.cut 1 x4.l.length).l = (splitC 32 ((splitC 59 s).getD 1 [])).tail := by rw [Sl.cut_full, g1, List.drop_one]
         have c2 : (x5.cut 1 x5.l.length).l = (splitC 32 ((splitC 59 s).getD 2 [])).tail := by rw [Sl.cut_full, g2, List.drop_one]
         simp only [PPolicy.lg, polS, polOf, c0, c1, c2, TPolicy.mk.injEq, true_and]
         rw [← e2]
         first
          | (rw [if_neg (show ¬ 3 < x2.l.length from fun h => by omega)]; done)
          | (rw [if_pos (show 3 < x2.l.length from Int.ofNat_lt.1 Q7)]; done)
          | (rw [if_pos (show 3 < x2.l.length from Int.ofNat_lt.1 Q7)]
             simp only [nonceS, nonceI]
             first
               | (rfl; done)
               | (rw [if_neg Q7]; done)
               | (rw [if_pos Q7, List.take_of_length_le (by simp)]; done)
               | (rw [if_pos Q7]; done))
        refine WL.callp hs Q0 (Yc.func Q0 fn62) (c_spec_FormatPolicy (⟨true, (x3.cut 1 x3.l.length), (x4.cut 1 x4.l.length), (x5.cut 1 x5.l.length), (((x2.l.getD 3 []).drop 6).take ((x2.l.getD 3 []).length - 6))⟩ : PPolicy) _ ⟨trivial, (Sl.Ok.cut (hs.okow (x := x3) (F := F3) Q1) (by rw [hx3]; exact List.length_pos_iff.2 (splitC_ne _ _)) (by exact Nat.le_refl _)), (Sl.Ok.cut (hs.okow (x := x4) (F := F4) Q1) (by rw [hx4]; exact List.length_pos_iff.2 (splitC_ne _ _)) (by exact Nat.le_refl _)), (Sl.Ok.cut (hs.okow (x := x5) (F := F5) Q1) (by rw [hx5]; exact List.length_pos_iff.2 (splitC_ne _ _)) (by exact Nat.le_refl _)), (by show WfS _; unfold WfS; simp only [List.length_take, List.length_drop]; omega)⟩ (by rw [hpl9]; have := polS_size (s := s) (by rw [← show x2.l = splitC 59 s from hx2]; omega); omega)) ?_
        clear hs; intro w hs
        refine Qm ?_
        refine WL.p Q0 (Yl.nes Q0 Q0) ?_
        refine WL.next ?_
        refine WC.condS Q0 (fun h5 => ?_) (fun h5 => ?_)
        ·
         replace h5 := not_eq_true h5
         replace h5 := of_decide_eq_false h5
         refine WC.seq ?_
         refine WL.p Q0 (Yl.build bt26 Q0 Q4) ?_
         refine WL.s (Yr.storeB hs Q0 Q0 Q0 Q5 Q3 Q0 (by exact szf26)) ?_
         clear hs; rintro _ w hs
         refine Qa ?_
         refine WL.next ?_
         refine WC.ret ?_
         refine At.thenret ?_
         refine fin2c rfl agg26 Q0 Q0 hs Q1 Q0 ?_
         refine Ret.mk hs ?_
         rw [hpl9] at h5
         have hb9 : policyIs s = false := policyIs_bad h1 h5
         exact ⟨⟨false, ⟨[], none, 0⟩, ⟨[], none, 0⟩, ⟨[], none, 0⟩, []⟩, by rw [hb9]; rfl, (policyOf_no (.inr hb9)).symm, ⟨⟨[], PPolicy.zown _, .nil, fun b h => by cases h⟩⟩⟩
        ·
         replace h5 := not_eq_false h5
         replace h5 := of_decide_eq_true h5
         refine WC.skipn ?_
         refine WC.seq ?_
         refine WL.p Q0 (Yl.loadAB agg26 Q0 hs Q1 Q0 Q0) ?_
         refine WL.s (Yr.storeB hs Q0 Q0 Q0 Q5 Q3 Q0 (by exact szf26)) ?_
         clear hs; rintro _ w hs
         refine Qa ?_
         refine WL.next ?_
         refine WC.ret ?_
         refine fin2c rfl agg26 Q0 Q0 hs Q1 Q0 ?_
         refine Ret.mk hs ?_
         rw [hpl9] at h5
         have hq9 : x2.l = splitC 59 s := hx2
         have h49 : 3 ≤ (splitC 59 s).length := by rw [← hq9]; omega
         have hb9 : policyIs s = true := policyIs_good h5 h49
         obtain ⟨G90, hs⟩ := Sat.cutow (lo := 1) (hi := x3.l.length) (hs.sel (D := [ow x3 F3]) Q2) (by rw [hx3]; exact List.length_pos_iff.2 (splitC_ne _ _)) (Nat.le_refl _)
         obtain ⟨G91, hs⟩ := Sat.cutow (lo := 1) (hi := x4.l.length) (hs.sel (D := [ow x4 F4]) Q2) (by rw [hx4]; exact List.length_pos_iff.2 (splitC_ne _ _)) (Nat.le_refl _)
         obtain ⟨G92, hs⟩ := Sat.cutow (lo := 1) (hi := x5.l.length) (hs.sel (D := [ow x5 F5]) Q2) (by rw [hx5]; exact List.length_pos_iff.2 (splitC_ne _ _)) (Nat.le_refl _)
         refine ⟨(⟨true, (x3.cut 1 x3.l.length), (x4.cut 1 x4.l.length), (x5.cut 1 x5.l.length), (((x2.l.getD 3 []).drop 6).take ((x2.l.getD 3 []).length - 6))⟩ : PPolicy), by rw [hb9]; rfl, hpl9.trans (policyOf_good h1 hb9).symm, ?_⟩
         exact (PPolicy.join _ (hs.only (D := [ow (x3.cut 1 x3.l.length) G90, ow (x4.cut 1 x4.l.length) G91, ow (x5.cut 1 x5.l.length) G92]) Q2) trivial (by show WfS _; unfold WfS; first | (simp only [List.length_take, List.length_drop]; omega) | simp)).fresh List.mem_cons_self
       ·
        replace h4 := of_decide_eq_false h4
        refine WC.skipn ?_
        refine WC.seq' ?_
        refine WC.seq ?_
        refine WL.p Q0 (Yl.loadAB agg26 Q0 hs Q1 Q0 Q0) ?_
        have hpl9 : PPolicy.lg (⟨true, (x3.cut 1 x3.l.length), (x4.cut 1 x4.l.length), (x5.cut 1 x5.l.length), ([] : Str)⟩ : PPolicy) = polS s := by
         have e2 : x2.l = splitC 59 s := hx2
         have g0 : x3.l = splitC 32 ((splitC 59 s).getD 0 []) := by rw [← e2]; exact hx3
         have g1 : x4.l = splitC 32 ((splitC 59 s).getD 1 []) := by rw [← e2]; exact hx4
         have g2 : x5.l = splitC 32 ((splitC 59 s).getD 2 []) := by rw [← e2]; exact hx5
         have c0 : (x3.cut 1 x3.l.length).l = (splitC 32 ((splitC 59 s).getD 0 [])).tail := by rw [Sl.cut_full, g0, List.drop_one]
         have c1 : (x4.cut 1 x4.l.length).l = (splitC 32 ((splitC 59 s).getD 1 [])).tail := by rw [Sl.cut_full, g1, List.drop_one]
         have c2 : (x5.cut 1 x5.l.length).l = (splitC 32 ((splitC 59 s).getD 2 [])).tail := by rw [Sl.cut_full, g2, List.drop_one]
         simp only [PPolicy.lg, polS, polOf, c0, c1, c2, TPolicy.mk.injEq, true_and]
         rw [← e2]
         first
          | (rw [if_neg (show ¬ 3 < x2.l.length from fun h => by omega)]; done)
          | (rw [if_pos (show 3 < x2.l.length from Int.ofNat_lt.1 Q7)]; done)
          | (rw [if_pos (show 3 < x2.l.length from Int.ofNat_lt.1 Q7)]
             simp only [nonceS, nonceI]
             first
               | (rfl; done)
               | (rw [if_neg Q7]; done)
               | (rw [if_pos Q7, List.take_of_length_le (by simp)]; done)
               | (rw [if_pos Q7]; done))
        refine WL.callp hs Q0 (Yc.func Q0 fn62) (c_spec_FormatPolicy (⟨true, (x3.cut 1 x3.l.length), (x4.cut 1 x4.l.length), (x5.cut 1 x5.l.length), ([] : Str)⟩ : PPolicy) _ ⟨trivial, (Sl.Ok.cut (hs.okow (x := x3) (F := F3) Q1) (by rw [hx3]; exact List.length_pos_iff.2 (splitC_ne _ _)) (by exact Nat.le_refl _)), (Sl.Ok.cut (hs.okow (x := x4) (F := F4) Q1) (by rw [hx4]; exact List.length_pos_iff.2 (splitC_ne _ _)) (by exact Nat.le_refl _)), (Sl.Ok.cut (hs.okow (x := x5) (F := F5) Q1) (by rw [hx5]; exact List.length_pos_iff.2 (splitC_ne _ _)) (by exact Nat.le_refl _)), (show WfS [] from Nat.zero_le _)⟩ (by rw [hpl9]; have := polS_size (s := s) (by rw [← show x2.l = splitC 59 s from hx2]; omega); omega)) ?_
        clear hs; intro w hs
        refine Qm ?_
        refine WL.p Q0 (Yl.nes Q0 Q0) ?_
        refine WL.next ?_
        refine WC.condS Q0 (fun h5 => ?_) (fun h5 => ?_)
        ·
         replace h5 := not_eq_true h5
         replace h5 := of_decide_eq_false h5
         refine WC.seq ?_
         refine WL.p Q0 (Yl.build bt26 Q0 Q4) ?_
         refine WL.s (Yr.storeB hs Q0 Q0 Q0 Q5 Q3 Q0 (by exact szf26)) ?_
         clear hs; rintro _ w hs
         refine Qa ?_
         refine WL.next ?_
         refine WC.ret ?_
         refine At.thenret ?_
         refine fin2c rfl agg26 Q0 Q0 hs Q1 Q0 ?_
         refine Ret.mk hs ?_
         rw [hpl9] at h5
         have hb9 : policyIs s = false := policyIs_bad h1 h5
         exact ⟨⟨false, ⟨[], none, 0⟩, ⟨[], none, 0⟩, ⟨[], none, 0⟩, []⟩, by rw [hb9]; rfl, (policyOf_no (.inr hb9)).symm, ⟨⟨[], PPolicy.zown _, .nil, fun b h => by cases h⟩⟩⟩
        ·
         replace h5 := not_eq_false h5
         replace h5 := of_decide_eq_true h5
         refine WC.skipn ?_
         refine WC.seq ?_
         refine WL.p Q0 (Yl.loadAB agg26 Q0 hs Q1 Q0 Q0) ?_
         refine WL.s (Yr.storeB hs Q0 Q0 Q0 Q5 Q3 Q0 (by exact szf26)) ?_
         clear hs; rintro _ w hs
         refine Qa ?_
         refine WL.next ?_
         refine WC.ret ?_
         refine fin2c rfl agg26 Q0 Q0 hs Q1 Q0 ?_
         refine Ret.mk hs ?_
         rw [hpl9] at h5
         have hq9 : x2.l = splitC 59 s := hx2
         have h49 : 3 ≤ (splitC 59 s).length := by rw [← hq9]; omega
         have hb9 : policyIs s = true := policyIs_good h5 h49
         obtain ⟨G90, hs⟩ := Sat.cutow (lo := 1) (hi := x3.l.length) (hs.sel (D := [ow x3 F3]) Q2) (by rw [hx3]; exact List.length_pos_iff.2 (splitC_ne _ _)) (Nat.le_refl _)
         obtain ⟨G91, hs⟩ := Sat.cutow (lo := 1) (hi := x4.l.length) (hs.sel (D := [ow x4 F4]) Q2) (by rw [hx4]; exact List.length_pos_iff.2 (splitC_ne _ _)) (Nat.le_refl _)
         obtain ⟨G92, hs⟩ := Sat.cutow (lo := 1) (hi := x5.l.length) (hs.sel (D := [ow x5 F5]) Q2) (by rw [hx5]; exact List.length_pos_iff.2 (splitC_ne _ _)) (Nat.le_refl _)
         refine ⟨(⟨true, (x3.cut 1 x3.l.length), (x4.cut 1 x4.l.length), (x5.cut 1 x5.l.length), ([] : Str)⟩ : PPolicy), by rw [hb9]; rfl, hpl9.trans (policyOf_good h1 hb9).symm, ?_⟩
         exact (PPolicy.join _ (hs.only (D := [ow (x3.cut 1 x3.l.length) G90, ow (x4.cut 1 x4.l.length) G91, ow (x5.cut 1 x5.l.length) G92]) Q2) trivial (by show WfS _; unfold WfS; first | (simp only [List.length_take, List.length_drop]; omega) | simp)).fresh List.mem_cons_self
      ·
       replace h3 := of_decide_eq_false h3
       refine WL.skip (d := 34) Q0 Q0 Q0 Q0 ?_
       refine WL.skip (d := 34) Q0 Q0 Q0 Q0 ?_
       refine WL.skip (d := 34) Q0 Q0 Q0 Q0 ?_
       refine WL.skip (d := 34) Q0 Q0 Q0 Q0 ?_
       refine WL.skip (d := 34) Q0 Q0 Q0 Q0 ?_
       refine WL.p Q0 (Yl.pickF Q0 Q0) ?_
       refine WL.next ?_
       refine WC.condF Q0 ?_
       refine WC.skipn ?_
       refine WC.seq' ?_
       refine WC.seq ?_
       refine WL.p Q0 (Yl.loadAB agg26 Q0 hs Q1 Q0 Q0) ?_
       have hpl9 : PPolicy.lg (⟨true, (x3.cut 1 x3.l.length), (x4.cut 1 x4.l.length), (x5.cut 1 x5.l.length), ([] : Str)⟩ : PPolicy) = polS s := by
        have e2 : x2.l = splitC 59 s := hx2
        have g0 : x3.l = splitC 32 ((splitC 59 s).getD 0 []) := by rw [← e2]; exact hx3
        have g1 : x4.l = splitC 32 ((splitC 59 s).getD 1 []) := by rw [← e2]; exact hx4
        have g2 : x5.l = splitC 32 ((splitC 59 s).getD 2 []) := by rw [← e2]; exact hx5
        have c0 : (x3.cut 1 x3.l.length).l = (splitC 32 ((splitC 59 s).getD 0 [])).tail := by rw [Sl.cut_full, g0, List.drop_one]
        have c1 : (x4.cut 1 x4.l.length).l = (splitC 32 ((splitC 59 s).getD 1 [])).tail := by rw [Sl.cut_full, g1, List.drop_one]
        have c2 : (x5.cut 1 x5.l.length).l = (splitC 32 ((splitC 59 s).getD 2 [])).tail := by rw [Sl.cut_full, g2, List.drop_one]
        simp only [PPolicy.lg, polS, polOf, c0, c1, c2, TPolicy.mk.injEq, true_and]
        rw [← e2]
        first
         | (rw [if_neg (show ¬ 3 < x2.l.length from fun h => by omega)]; done)
         | (rw [if_pos (show 3 < x2.l.length from Int.ofNat_lt.1 Q7)]; done)
         | (rw [if_pos (show 3 < x2.l.length from Int.ofNat_lt.1 Q7)]
            simp only [nonceS, nonceI]
            first
              | (rfl; done)
              | (rw [if_neg Q7]; done)
              | (rw [if_pos Q7, List.take_of_length_le (by simp)]; done)
              | (rw [if_pos Q7]; done))
       refine WL.callp hs Q0 (Yc.func Q0 fn62) (c_spec_FormatPolicy (⟨true, (x3.cut 1 x3.l.length), (x4.cut 1 x4.l.length), (x5.cut 1 x5.l.length), ([] : Str)⟩ : PPolicy) _ ⟨trivial, (Sl.Ok.cut (hs.okow (x := x3) (F := F3) Q1) (by rw [hx3]; exact List.length_pos_iff.2 (splitC_ne _ _)) (by exact Nat.le_refl _)), (Sl.Ok.cut (hs.okow (x := x4) (F := F4) Q1) (by rw [hx4]; exact List.length_pos_iff.2 (splitC_ne _ _)) (by exact Nat.le_refl _)), (Sl.Ok.cut (hs.okow (x := x5) (F := F5) Q1) (by rw [hx5]; exact List.length_pos_iff.2 (splitC_ne _ _)) (by exact Nat.le_refl _)), (show WfS [] from Nat.zero_le _)⟩ (by rw [hpl9]; have := polS_size (s := s) (by rw [← show x2.l = splitC 59 s from hx2]; omega); omega)) ?_
       clear hs; intro w hs
       refine Qm ?_
       refine WL.p Q0 (Yl.nes Q0 Q0) ?_
       refine WL.next ?_
       refine WC.condS Q0 (fun h4 => ?_) (fun h4 => ?_)
       ·
        replace h4 := not_eq_true h4
        replace h4 := of_decide_eq_false h4
        refine WC.seq ?_
        refine WL.p Q0 (Yl.build bt26 Q0 Q4) ?_
        refine WL.s (Yr.storeB hs Q0 Q0 Q0 Q5 Q3 Q0 (by exact szf26)) ?_
        clear hs; rintro _ w hs
        refine Qa ?_
        refine WL.next ?_
        refine WC.ret ?_
        refine At.thenret ?_
        refine fin2c rfl agg26 Q0 Q0 hs Q1 Q0 ?_
        refine Ret.mk hs ?_
        rw [hpl9] at h4
        have hb9 : policyIs s = false := policyIs_bad h1 h4
        exact ⟨⟨false, ⟨[], none, 0⟩, ⟨[], none, 0⟩, ⟨[], none, 0⟩, []⟩, by rw [hb9]; rfl, (policyOf_no (.inr hb9)).symm, ⟨⟨[], PPolicy.zown _, .nil, fun b h => by cases h⟩⟩⟩
       ·
        replace h4 := not_eq_false h4
        replace h4 := of_decide_eq_true h4
        refine WC.skipn ?_
        refine WC.seq ?_
        refine WL.p Q0 (Yl.loadAB agg26 Q0 hs Q1 Q0 Q0) ?_
        refine WL.s (Yr.storeB hs Q0 Q0 Q0 Q5 Q3 Q0 (by exact szf26)) ?_
        clear hs; rintro _ w hs
        refine Qa ?_
        refine WL.next ?_
        refine WC.ret ?_
        refine fin2c rfl agg26 Q0 Q0 hs Q1 Q0 ?_
        refine Ret.mk hs ?_
        rw [hpl9] at h4
        have hq9 : x2.l = splitC 59 s := hx2
        have h49 : 3 ≤ (splitC 59 s).length := by rw [← hq9]; omega
        have hb9 : policyIs s = true := policyIs_good h4 h49
        obtain ⟨G90, hs⟩ := Sat.cutow (lo := 1) (hi := x3.l.length) (hs.sel (D := [ow x3 F3]) Q2) (by rw [hx3]; exact List.length_pos_iff.2 (splitC_ne _ _)) (Nat.le_refl _)
        obtain ⟨G91, hs⟩ := Sat.cutow (lo := 1) (hi := x4.l.length) (hs.sel (D := [ow x4 F4]) Q2) (by rw [hx4]; exact List.length_pos_iff.2 (splitC_ne _ _)) (Nat.le_refl _)
        obtain ⟨G92, hs⟩ := Sat.cutow (lo := 1) (hi := x5.l.length) (hs.sel (D := [ow x5 F5]) Q2) (by rw [hx5]; exact List.length_pos_iff.2 (splitC_ne _ _)) (Nat.le_refl _)
        refine ⟨(⟨true, (x3.cut 1 x3.l.length), (x4.cut 1 x4.l.length), (x5.cut 1 x5.l.length), ([] : Str)⟩ : PPolicy), by rw [hb9]; rfl, hpl9.trans (policyOf_good h1 hb9).symm, ?_⟩
        exact (PPolicy.join _ (hs.only (D := [ow (x3.cut 1 x3.l.length) G90, ow (x4.cut 1 x4.l.length) G91, ow (x5.cut 1 x5.l.length) G92]) Q2) trivial (by show WfS _; unfold WfS; first | (simp only [List.length_take, List.length_drop]; omega) | simp)).fresh List.mem_cons_self
     ·
      refine WI.r (i := 16) Q0 Q0 (Yr.alloc hs zt26) (by rintro _ w ⟨b7, rfl, hb, hs⟩; exact hs.only Q2) ?_
      clear hs; rintro _ w ⟨b7, rfl, hb, hs⟩; clear hb
      refine WA.call2 (i := 13) hs (fun _ hs => hs.only Q2) Q6 Q0 Q0 (Yc.func Q0 fn64) (c_spec_l5Split _ 32 _ (by first | (have := getD_len (s := s) (i := 0); rw [← show x2.l = splitC 59 s from hx2] at this; omega) | (have := getD_len (s := s) (i := 1); rw [← show x2.l = splitC 59 s from hx2] at this; omega) | (have := getD_len (s := s) (i := 2); rw [← show x2.l = splitC 59 s from hx2] at this; omega) | (have := getD_len (s := s) (i := 3); rw [← show x2.l = splitC 59 s from hx2] at this; omega))) ?_
      have hs0 := hs; clear hs; intro v w hb hR hs; clear hs
      obtain ⟨x8, rfl, hx8, hf8⟩ := hR
      obtain ⟨F8, hs⟩ := hf8.sat hs0 hb; clear hs0 hf8
      have hle8 := Sl.Ok.le (hs.okow (x := x8) (F := F8) Q1)
      refine WA.r (i := 14) Q6 Q0 Q0 (Yl.yr (Yl.slice_sl (s := x8) (l := 1) (h := x8.l.length) slt24 Q0 hle8 (by exact ⟨_, by rfl⟩) (by exact rfl) (by rw [hx8]; exact List.length_pos_iff.2 (splitC_ne _ _)) (by exact Nat.le_refl _))) (by rintro _ _ ⟨rfl, rfl⟩; exact hs.only Q2) ?_
      rintro _ _ ⟨rfl, rfl⟩
      refine WA.p (i := 15) Q0 Q6 Q6 Q6 Q0 (hs.only Q2) (fun w hs => Yl.build bt26 Q0 Q4) ?_
      refine WA.s (i := 17) Q6 Q0 (Yr.storeB hs Q0 Q0 Q0 Q5 Q3 Q0 (by exact szf26)) (by rintro _ w hs; exact hs.only Q2) ?_
      clear hs; rintro _ w hs
      refine WA.donen Q6 ?_
      refine WC.seq' ?_
      refine WC.seq ?_
      refine Qm ?_
      refine WL.p Q0 (Yl.len_sl slu24 Q0) ?_
      refine WL.p Q0 (Yl.gtr Q0 Q0) ?_
      refine Qm ?_
      refine WL.split (d := 34) Q0 (fun h3 => ?_) (fun h3 => ?_)
      ·
       replace h3 := of_decide_eq_true h3
       refine WL.run (d := 34) Q0 Q0 ?_
       refine Qm ?_
       refine WL.run (d := 34) Q0 Q0 ?_
       refine WL.p Q0 (Yl.indexAddr (k := 3) slt24 Q0 Q0 (hs.okow (x := x2) (F := F2) Q1) Q0 ((getD_some (i := 3) (z := ([] : Str)) Q7))) ?_
       refine WL.run (d := 34) Q0 Q0 ?_
       refine WL.p Q0 (Yl.loadC0 sca9 Q0 (Sl.Ok.at_ (hs.okow (x := x2) (F := F2) Q1) ((getD_some (i := 3) (z := ([] : Str)) Q7))).2 Q0) ?_
       refine WL.run (d := 34) Q0 Q0 ?_
       refine WL.p Q0 (Yl.len_str str9 Q0) ?_
       refine WL.run (d := 34) Q0 Q0 ?_
       refine WL.p Q0 (Yl.gtr Q0 Q0) ?_
       refine WL.p Q0 (Yl.pickT Q0 Q0) ?_
       refine WL.next ?_
       refine WC.condS Q0 (fun h4 => ?_) (fun h4 => ?_)
       ·
        replace h4 := of_decide_eq_true h4
        refine WC.region ?_
        refine Qm ?_
        refine WL.p Q0 (Yl.indexAddr (k := 3) slt24 Q0 Q0 (hs.okow (x := x2) (F := F2) Q1) Q0 ((getD_some (i := 3) (z := ([] : Str)) Q7))) ?_
        refine WL.p Q0 (Yl.loadC0 sca9 Q0 (Sl.Ok.at_ (hs.okow (x := x2) (F := F2) Q1) ((getD_some (i := 3) (z := ([] : Str)) Q7))).2 Q0) ?_
        refine WL.p Q0 (Yl.slice_str (l := 6) str9 Q0 (by exact ⟨_, by rfl⟩) (by exact rfl) Q7 Q7) ?_
        refine WL.p Q0 (Yl.fieldAddr fa26_4 Q0) ?_
        refine WL.s (Yr.storeB hs Q0 Q0 Q0 Q5 Q3 Q0 (by exact szf9)) ?_
        clear hs; rintro _ w hs
        refine WL.nil ?_
        refine At.then_ ?_
        refine WC.seq' ?_
        refine WC.seq ?_
        refine WL.p Q0 (Yl.loadAB agg26 Q0 hs Q1 Q0 Q0) ?_
        have hpl9 : PPolicy.lg (⟨true, (x3.cut 1 x3.l.length), (x4.cut 1 x4.l.length), (x8.cut 1 x8.l.length), (((x2.l.getD 3 []).drop 6).take ((x2.l.getD 3 []).length - 6))⟩ : PPolicy) = polS s := by
         have e2 : x2.l = splitC 59 s := hx2
         have g0 : x3.l = splitC 32 ((splitC 59 s).getD 0 []) := by rw [← e2]; exact hx3
         have g1 : x4.l = splitC 32 ((splitC 59 s).getD 1 []) := by rw [← e2]; exact hx4
         have g2 : x8.l = splitC 32 ((splitC 59 s).getD 2 []) := by rw [← e2]; exact hx8
         have c0 : (x3.cut 1 x3.l.length).l = (splitC 32 ((splitC 59 s).getD 0 [])).tail := by rw [Sl.cut_full, g0, List.drop_one]
         have c1 : (x4.cut 1 x4.l.length).l = (splitC 32 ((splitC 59 s).getD 1 [])).tail := by rw [Sl.cut_full, g1, List.drop_one]
         have c2 : (x8.cut 1 x8.l.length).l = (splitC 32 ((splitC 59 s).getD 2 [])).tail := by rw [Sl.cut_full, g2, List.drop_one]
         simp only [PPolicy.lg, polS, polOf, c0, c1, c2, TPolicy.mk.injEq, true_and]
         rw [← e2]
         first
          | (rw [if_neg (show ¬ 3 < x2.l.length from fun h => by omega)]; done)
          | (rw [if_pos (show 3 < x2.l.length from Int.ofNat_lt.1 Q7)]; done)
          | (rw [if_pos (show 3 < x2.l.length from Int.ofNat_lt.1 Q7)]
             simp only [nonceS, nonceI]
             first
               | (rfl; done)
               | (rw [if_neg Q7]; done)
               | (rw [if_pos Q7, List.take_of_length_le (by simp)]; done)
               | (rw [if_pos Q7]; done))
        refine WL.callp hs Q0 (Yc.func Q0 fn62) (c_spec_FormatPolicy (⟨true, (x3.cut 1 x3.l.length), (x4.cut 1 x4.l.length), (x8.cut 1 x8.l.length), (((x2.l.getD 3 []).drop 6).take ((x2.l.getD 3 []).length - 6))⟩ : PPolicy) _ ⟨trivial, (Sl.Ok.cut (hs.okow (x := x3) (F := F3) Q1) (by rw [hx3]; exact List.length_pos_iff.2 (splitC_ne _ _)) (by exact Nat.le_refl _)), (Sl.Ok.cut (hs.okow (x := x4) (F := F4) Q1) (by rw [hx4]; exact List.length_pos_iff.2 (splitC_ne _ _)) (by exact Nat.le_refl _)), (Sl.Ok.cut (hs.okow (x := x8) (F := F8) Q1) (by rw [hx8]; exact List.length_pos_iff.2 (splitC_ne _ _)) (by exact Nat.le_refl _)), (by show WfS _; unfold WfS; simp only [List.length_take, List.length_drop]; omega)⟩ (by rw [hpl9]; have := polS_size (s := s) (by rw [← show x2.l = splitC 59 s from hx2]; omega); omega)) ?_
        clear hs; intro w hs
        refine Qm ?_
        refine WL.p Q0 (Yl.nes Q0 Q0) ?_
        refine WL.next ?_
        refine WC.condS Q0 (fun h5 => ?_) (fun h5 => ?_)
        ·
         replace h5 := not_eq_true h5
         replace h5 := of_decide_eq_false h5
         refine WC.seq ?_
         refine WL.p Q0 (Yl.build bt26 Q0 Q4) ?_
         refine WL.s (Yr.storeB hs Q0 Q0 Q0 Q5 Q3 Q0 (by exact szf26)) ?_
         clear hs; rintro _ w hs
         refine Qa ?_
         refine WL.next ?_
         refine WC.ret ?_
         refine At.thenret ?_
         refine fin2c rfl agg26 Q0 Q0 hs Q1 Q0 ?_
         refine Ret.mk hs ?_
         rw [hpl9] at h5
         have hb9 : policyIs s = false := policyIs_bad h1 h5
         exact ⟨⟨false, ⟨[], none, 0⟩, ⟨[], none, 0⟩, ⟨[], none, 0⟩, []⟩, by rw [hb9]; rfl, (policyOf_no (.inr hb9)).symm, ⟨⟨[], PPolicy.zown _, .nil, fun b h => by cases h⟩⟩⟩
        ·
         replace h5 := not_eq_false h5
         replace h5 := of_decide_eq_true h5
         refine WC.skipn ?_
         refine WC.seq ?_
         refine WL.p Q0 (Yl.loadAB agg26 Q0 hs Q1 Q0 Q0) ?_
         refine WL.s (Yr.storeB hs Q0 Q0 Q0 Q5 Q3 Q0 (by exact szf26)) ?_
         clear hs; rintro _ w hs
         refine Qa ?_
         refine WL.next ?_
         refine WC.ret ?_
         refine fin2c rfl agg26 Q0 Q0 hs Q1 Q0 ?_
         refine Ret.mk hs ?_
         rw [hpl9] at h5
         have hq9 : x2.l = splitC 59 s := hx2
         have h49 : 3 ≤ (splitC 59 s).length := by rw [← hq9]; omega
         have hb9 : policyIs s = true := policyIs_good h5 h49
         obtain ⟨G90, hs⟩ := Sat.cutow (lo := 1) (hi := x3.l.length) (hs.sel (D := [ow x3 F3]) Q2) (by rw [hx3]; exact List.length_pos_iff.2 (splitC_ne _ _)) (Nat.le_refl _)
         obtain ⟨G91, hs⟩ := Sat.cutow (lo := 1) (hi := x4.l.length) (hs.sel (D := [ow x4 F4]) Q2) (by rw [hx4]; exact List.length_pos_iff.2 (splitC_ne _ _)) (Nat.le_refl _)
         obtain ⟨G92, hs⟩ := Sat.cutow (lo := 1) (hi := x8.l.length) (hs.sel (D := [ow x8 F8]) Q2) (by rw [hx8]; exact List.length_pos_iff.2 (splitC_ne _ _)) (Nat.le_refl _)
         refine ⟨(⟨true, (x3.cut 1 x3.l.length), (x4.cut 1 x4.l.length), (x8.cut 1 x8.l.length), (((x2.l.getD 3 []).drop 6).take ((x2.l.getD 3 []).length - 6))⟩ : PPolicy), by rw [hb9]; rfl, hpl9.trans (policyOf_good h1 hb9).symm, ?_⟩
         exact (PPolicy.join _ (hs.only (D := [ow (x3.cut 1 x3.l.length) G90, ow (x4.cut 1 x4.l.length) G91, ow (x8.cut 1 x8.l.length) G92]) Q2) trivial (by show WfS _; unfold WfS; first | (simp only [List.length_take, List.length_drop]; omega) | simp)).fresh List.mem_cons_self
       ·
        replace h4 := of_decide_eq_false h4
        refine WC.skipn ?_
        refine WC.seq' ?_
        refine WC.seq ?_
        refine WL.p Q0 (Yl.loadAB agg26 Q0 hs Q1 Q0 Q0) ?_
        have hpl9 : PPolicy.lg (⟨true, (x3.cut 1 x3.l.length), (x4.cut 1 x4.l.length), (x8.cut 1 x8.l.length), ([] : Str)⟩ : PPolicy) = polS s := by
         have e2 : x2.l = splitC 59 s := hx2
         have g0 : x3.l = splitC 32 ((splitC 59 s).getD 0 []) := by rw [← e2]; exact hx3
         have g1 : x4.l = splitC 32 ((splitC 59 s).getD 1 []) := by rw [← e2]; exact hx4
         have g2 : x8.l = splitC 32 ((splitC 59 s).getD 2 []) := by rw [← e2]; exact hx8
         have c0 : (x3.cut 1 x3.l.length).l = (splitC 32 ((splitC 59 s).getD 0 [])).tail := by rw [Sl.cut_full, g0, List.drop_one]
         have c1 : (x4.cut 1 x4.l.length).l = (splitC 32 ((splitC 59 s).getD 1 [])).tail := by rw [Sl.cut_full, g1, List.drop_one]
         have c2 : (x8.cut 1 x8.l.length).l = (splitC 32 ((splitC 59 s).getD 2 [])).tail := by rw [Sl.cut_full, g2, List.drop_one]
         simp only [PPolicy.lg, polS, polOf, c0, c1, c2, TPolicy.mk.injEq, true_and]
         rw [← e2]
         first
          | (rw [if_neg (show ¬ 3 < x2.l.length from fun h => by omega)]; done)
          | (rw [if_pos (show 3 < x2.l.length from Int.ofNat_lt.1 Q7)]; done)
          | (rw [if_pos (show 3 < x2.l.length from Int.ofNat_lt.1 Q7)]
             simp only [nonceS, nonceI]
             first
               | (rfl; done)
               | (rw [if_neg Q7]; done)
               | (rw [if_pos Q7, List.take_of_length_le (by simp)]; done)
               | (rw [if_pos Q7]; done))
        refine WL.callp hs Q0 (Yc.func Q0 fn62) (c_spec_FormatPolicy (⟨true, (x3.cut 1 x3.l.length), (x4.cut 1 x4.l.length), (x8.cut 1 x8.l.length), ([] : Str)⟩ : PPolicy) _ ⟨trivial, (Sl.Ok.cut (hs.okow (x := x3) (F := F3) Q1) (by rw [hx3]; exact List.length_pos_iff.2 (splitC_ne _ _)) (by exact Nat.le_refl _)), (Sl.Ok.cut (hs.okow (x := x4) (F := F4) Q1) (by rw [hx4]; exact List.length_pos_iff.2 (splitC_ne _ _)) (by exact Nat.le_refl _)), (Sl.Ok.cut (hs.okow (x := x8) (F := F8) Q1) (by rw [hx8]; exact List.length_pos_iff.2 (splitC_ne _ _)) (by exact Nat.le_refl _)), (show WfS [] from Nat.zero_le _)⟩ (by rw [hpl9]; have := polS_size (s := s) (by rw [← show x2.l = splitC 59 s from hx2]; omega); omega)) ?_
        clear hs; intro w hs
        refine Qm ?_
        refine WL.p Q0 (Yl.nes Q0 Q0) ?_
        refine WL.next ?_
        refine WC.condS Q0 (fun h5 => ?_) (fun h5 => ?_)
        ·
         replace h5 := not_eq_true h5
         replace h5 := of_decide_eq_false h5
         refine WC.seq ?_
         refine WL.p Q0 (Yl.build bt26 Q0 Q4) ?_
         refine WL.s (Yr.storeB hs Q0 Q0 Q0 Q5 Q3 Q0 (by exact szf26)) ?_
         clear hs; rintro _ w hs
         refine Qa ?_
         refine WL.next ?_
         refine WC.ret ?_
         refine At.thenret ?_
         refine fin2c rfl agg26 Q0 Q0 hs Q1 Q0 ?_
         refine Ret.mk hs ?_
         rw [hpl9] at h5
         have hb9 : policyIs s = false := policyIs_bad h1 h5
         exact ⟨⟨false, ⟨[], none, 0⟩, ⟨[], none, 0⟩, ⟨[], none, 0⟩, []⟩, by rw [hb9]; rfl, (policyOf_no (.inr hb9)).symm, ⟨⟨[], PPolicy.zown _, .nil, fun b h => by cases h⟩⟩⟩
        ·
         replace h5 := not_eq_false h5
         replace h5 := of_decide_eq_true h5
         refine WC.skipn ?_
         refine WC.seq ?_
         refine WL.p Q0 (Yl.loadAB agg26 Q0 hs Q1 Q0 Q0) ?_
         refine WL.s (Yr.storeB hs Q0 Q0 Q0 Q5 Q3 Q0 (by exact szf26)) ?_
         clear hs; rintro _ w hs
         refine Qa ?_
         refine WL.next ?_
         refine WC.ret ?_
         refine fin2c rfl agg26 Q0 Q0 hs Q1 Q0 ?_
         refine Ret.mk hs ?_
         rw [hpl9] at h5
         have hq9 : x2.l = splitC 59 s := hx2
         have h49 : 3 ≤ (splitC 59 s).length := by rw [← hq9]; omega
         have hb9 : policyIs s = true := policyIs_good h5 h49
         obtain ⟨G90, hs⟩ := Sat.cutow (lo := 1) (hi := x3.l.length) (hs.sel (D := [ow x3 F3]) Q2) (by rw [hx3]; exact List.length_pos_iff.2 (splitC_ne _ _)) (Nat.le_refl _)
         obtain ⟨G91, hs⟩ := Sat.cutow (lo := 1) (hi := x4.l.length) (hs.sel (D := [ow x4 F4]) Q2) (by rw [hx4]; exact List.length_pos_iff.2 (splitC_ne _ _)) (Nat.le_refl _)
         obtain ⟨G92, hs⟩ := Sat.cutow (lo := 1) (hi := x8.l.length) (hs.sel (D := [ow x8 F8]) Q2) (by rw [hx8]; exact List.length_pos_iff.2 (splitC_ne _ _)) (Nat.le_refl _)
         refine ⟨(⟨true, (x3.cut 1 x3.l.length), (x4.cut 1 x4.l.length), (x8.cut 1 x8.l.length), ([] : Str)⟩ : PPolicy), by rw [hb9]; rfl, hpl9.trans (policyOf_good h1 hb9).symm, ?_⟩
         exact (PPolicy.join _ (hs.only (D := [ow (x3.cut 1 x3.l.length) G90, ow (x4.cut 1 x4.l.length) G91, ow (x8.cut 1 x8.l.length) G92]) Q2) trivial (by show WfS _; unfold WfS; first | (simp only [List.length_take, List.length_drop]; omega) | simp)).fresh List.mem_cons_self
      ·
       replace h3 := of_decide_eq_false h3
       refine WL.skip (d := 34) Q0 Q0 Q0 Q0 ?_
       refine WL.skip (d := 34) Q0 Q0 Q0 Q0 ?_
       refine WL.skip (d := 34) Q0 Q0 Q0 Q0 ?_
       refine WL.skip (d := 34) Q0 Q0 Q0 Q0 ?_
       refine WL.skip (d := 34) Q0 Q0 Q0 Q0 ?_
       refine WL.p Q0 (Yl.pickF Q0 Q0) ?_
       refine WL.next ?_
       refine WC.condF Q0 ?_
       refine WC.skipn ?_
       refine WC.seq' ?_
       refine WC.seq ?_
       refine WL.p Q0 (Yl.loadAB agg26 Q0 hs Q1 Q0 Q0) ?_
       have hpl9 : PPolicy.lg (⟨true, (x3.cut 1 x3.l.length), (x4.cut 1 x4.l.length), (x8.cut 1 x8.l.length), ([] : Str)⟩ : PPolicy) = polS s := by
        have e2 : x2.l = splitC 59 s := hx2
        have g0 : x3.l = splitC 32 ((splitC 59 s).getD 0 []) := by rw [← e2]; exact hx3
        have g1 : x4.l = splitC 32 ((splitC 59 s).getD 1 []) := by rw [← e2]; exact hx4
        have g2 : x8.l = splitC 32 ((splitC 59 s).getD 2 []) := by rw [← e2]; exact hx8
        have c0 : (x3.cut 1 x3.l.length).l = (splitC 32 ((splitC 59 s).getD 0 [])).tail := by rw [Sl.cut_full, g0, List.drop_one]
        have c1 : (x4.cut 1 x4.l.length).l = (splitC 32 ((splitC 59 s).getD 1 [])).tail := by rw [Sl.cut_full, g1, List.drop_one]
        have c2 : (x8.cut 1 x8.l.length).l = (splitC 32 ((splitC 59 s).getD 2 [])).tail := by rw [Sl.cut_full, g2, List.drop_one]
        simp only [PPolicy.lg, polS, polOf, c0, c1, c2, TPolicy.mk.injEq, true_and]
        rw [← e2]
        first
         | (rw [if_neg (show ¬ 3 < x2.l.length from fun h => by omega)]; done)
         | (rw [if_pos (show 3 < x2.l.length from Int.ofNat_lt.1 Q7)]; done)
         | (rw [if_pos (show 3 < x2.l.length from Int.ofNat_lt.1 Q7)]
            simp only [nonceS, nonceI]
            first
              | (rfl; done)
              | (rw [if_neg Q7]; done)
              | (rw [if_pos Q7, List.take_of_length_le (by simp)]; done)
              | (rw [if_pos Q7]; done))
       refine WL.callp hs Q0 (Yc.func Q0 fn62) (c_spec_FormatPolicy (⟨true, (x3.cut 1 x3.l.length), (x4.cut 1 x4.l.length), (x8.cut 1 x8.l.length), ([] : Str)⟩ : PPolicy) _ ⟨trivial, (Sl.Ok.cut (hs.okow (x := x3) (F := F3) Q1) (by rw [hx3]; exact List.length_pos_iff.2 (splitC_ne _ _)) (by exact Nat.le_refl _)), (Sl.Ok.cut (hs.okow (x := x4) (F := F4) Q1) (by rw [hx4]; exact List.length_pos_iff.2 (splitC_ne _ _)) (by exact Nat.le_refl _)), (Sl.Ok.cut (hs.okow (x := x8) (F := F8) Q1) (by rw [hx8]; exact List.length_pos_iff.2 (splitC_ne _ _)) (by exact Nat.le_refl _)), (show WfS [] from Nat.zero_le _)⟩ (by rw [hpl9]; have := polS_size (s := s) (by rw [← show x2.l = splitC 59 s from hx2]; omega); omega)) ?_
       clear hs; intro w hs
       refine Qm ?_
       refine WL.p Q0 (Yl.nes Q0 Q0) ?_
       refine WL.next ?_
       refine WC.condS Q0 (fun h4 => ?_) (fun h4 => ?_)
       ·
        replace h4 := not_eq_true h4
        replace h4 := of_decide_eq_false h4
        refine WC.seq ?_
        refine WL.p Q0 (Yl.build bt26 Q0 Q4) ?_
        refine WL.s (Yr.storeB hs Q0 Q0 Q0 Q5 Q3 Q0 (by exact szf26)) ?_
        clear hs; rintro _ w hs
        refine Qa ?_
        refine WL.next ?_
        refine WC.ret ?_
        refine At.thenret ?_
        refine fin2c rfl agg26 Q0 Q0 hs Q1 Q0 ?_
        refine Ret.mk hs ?_
        rw [hpl9] at h4
        have hb9 : policyIs s = false := policyIs_bad h1 h4
        exact ⟨⟨false, ⟨[], none, 0⟩, ⟨[], none, 0⟩, ⟨[], none, 0⟩, []⟩, by rw [hb9]; rfl, (policyOf_no (.inr hb9)).symm, ⟨⟨[], PPolicy.zown _, .nil, fun b h => by cases h⟩⟩⟩
       ·
        replace h4 := not_eq_false h4
        replace h4 := of_decide_eq_true h4
        refine WC.skipn ?_
        refine WC.seq ?_
        refine WL.p Q0 (Yl.loadAB agg26 Q0 hs Q1 Q0 Q0) ?_
        refine WL.s (Yr.storeB hs Q0 Q0 Q0 Q5 Q3 Q0 (by exact szf26)) ?_
        clear hs; rintro _ w hs
        refine Qa ?_
        refine WL.next ?_
        refine WC.ret ?_
        refine fin2c rfl agg26 Q0 Q0 hs Q1 Q0 ?_
        refine Ret.mk hs ?_
        rw [hpl9] at h4
        have hq9 : x2.l = splitC 59 s := hx2
        have h49 : 3 ≤ (splitC 59 s).length := by rw [← hq9]; omega
        have hb9 : policyIs s = true := policyIs_good h4 h49
        obtain ⟨G90, hs⟩ := Sat.cutow (lo := 1) (hi := x3.l.length) (hs.sel (D := [ow x3 F3]) Q2) (by rw [hx3]; exact List.length_pos_iff.2 (splitC_ne _ _)) (Nat.le_refl _)
        obtain ⟨G91, hs⟩ := Sat.cutow (lo := 1) (hi := x4.l.length) (hs.sel (D := [ow x4 F4]) Q2) (by rw [hx4]; exact List.length_pos_iff.2 (splitC_ne _ _)) (Nat.le_refl _)
        obtain ⟨G92, hs⟩ := Sat.cutow (lo := 1) (hi := x8.l.length) (hs.sel (D := [ow x8 F8]) Q2) (by rw [hx8]; exact List.length_pos_iff.2 (splitC_ne _ _)) (Nat.le_refl _)
        refine ⟨(⟨true, (x3.cut 1 x3.l.length), (x4.cut 1 x4.l.length), (x8.cut 1 x8.l.length), ([] : Str)⟩ : PPolicy), by rw [hb9]; rfl, hpl9.trans (policyOf_good h1 hb9).symm, ?_⟩
        exact (PPolicy.join _ (hs.only (D := [ow (x3.cut 1 x3.l.length) G90, ow (x4.cut 1 x4.l.length) G91, ow (x8.cut 1 x8.l.length) G92]) Q2) trivial (by show WfS _; unfold WfS; first | (simp only [List.length_take, List.length_drop]; omega) | simp)).fresh List.mem_cons_self
    ·
     refine WI.r (i := 16) Q0 Q0 (Yr.alloc hs zt26) (by rintro _ w ⟨b9, rfl, hb, hs⟩; exact hs.only Q2) ?_
     clear hs; rintro _ w ⟨b9, rfl, hb, hs⟩; clear hb
     refine WA.call2 (i := 8) hs (fun _ hs => hs.only Q2) Q6 Q0 Q0 (Yc.func Q0 fn64) (c_spec_l5Split _ 32 _ (by first | (have := getD_len (s := s) (i := 0); rw [← show x2.l = splitC 59 s from hx2] at this; omega) | (have := getD_len (s := s) (i := 1); rw [← show x2.l = splitC 59 s from hx2] at this; omega) | (have := getD_len (s := s) (i := 2); rw [← show x2.l = splitC 59 s from hx2] at this; omega) | (have := getD_len (s := s) (i := 3); rw [← show x2.l = splitC 59 s from hx2] at this; omega))) ?_
     have hs0 := hs; clear hs; intro v w hb hR hs; clear hs
     obtain ⟨x10, rfl, hx10, hf10⟩ := hR
     obtain ⟨F10, hs⟩ := hf10.sat hs0 hb; clear hs0 hf10
     have hle10 := Sl.Ok.le (hs.okow (x := x10) (F := F10) Q1)
     refine WA.p (i := 9) Q0 Q6 Q6 Q6 Q0 (hs.only Q2) (fun w hs => Yl.slice_sl (s := x10) (l := 1) (h := x10.l.length) slt24 Q0 hle10 (by exact ⟨_, by rfl⟩) (by exact rfl) (by rw [hx10]; exact List.length_pos_iff.2 (splitC_ne _ _)) (by exact Nat.le_refl _)) ?_
     refine WA.call2 (i := 13) hs (fun _ hs => hs.only Q2) Q6 Q0 Q0 (Yc.func Q0 fn64) (c_spec_l5Split _ 32 _ (by first | (have := getD_len (s := s) (i := 0); rw [← show x2.l = splitC 59 s from hx2] at this; omega) | (have := getD_len (s := s) (i := 1); rw [← show x2.l = splitC 59 s from hx2] at this; omega) | (have := getD_len (s := s) (i := 2); rw [← show x2.l = splitC 59 s from hx2] at this; omega) | (have := getD_len (s := s) (i := 3); rw [← show x2.l = splitC 59 s from hx2] at this; omega))) ?_
     have hs0 := hs; clear hs; intro v w hb hR hs; clear hs
     obtain ⟨x11, rfl, hx11, hf11⟩ := hR
     obtain ⟨F11, hs⟩ := hf11.sat hs0 hb; clear hs0 hf11
     have hle11 := Sl.Ok.le (hs.okow (x := x11) (F := F11) Q1)
     refine WA.r (i := 14) Q6 Q0 Q0 (Yl.yr (Yl.slice_sl (s := x11) (l := 1) (h := x11.l.length) slt24 Q0 hle11 (by exact ⟨_, by rfl⟩) (by exact rfl) (by rw [hx11]; exact List.length_pos_iff.2 (splitC_ne _ _)) (by exact Nat.le_refl _))) (by rintro _ _ ⟨rfl, rfl⟩; exact hs.only Q2) ?_
     rintro _ _ ⟨rfl, rfl⟩
     refine WA.p (i := 15) Q0 Q6 Q6 Q6 Q0 (hs.only Q2) (fun w hs => Yl.build bt26 Q0 Q4) ?_
     refine WA.s (i := 17) Q6 Q0 (Yr.storeB hs Q0 Q0 Q0 Q5 Q3 Q0 (by exact szf26)) (by rintro _ w hs; exact hs.only Q2) ?_
     clear hs; rintro _ w hs
     refine WA.donen Q6 ?_
     refine WC.seq' ?_
     refine WC.seq ?_
     refine Qm ?_
     refine WL.p Q0 (Yl.len_sl slu24 Q0) ?_
     refine WL.p Q0 (Yl.gtr Q0 Q0) ?_
     refine Qm ?_
     refine WL.split (d := 34) Q0 (fun h3 => ?_) (fun h3 => ?_)
     ·
      replace h3 := of_decide_eq_true h3
      refine WL.run (d := 34) Q0 Q0 ?_
      refine Qm ?_
      refine WL.run (d := 34) Q0 Q0 ?_
      refine WL.p Q0 (Yl.indexAddr (k := 3) slt24 Q0 Q0 (hs.okow (x := x2) (F := F2) Q1) Q0 ((getD_some (i := 3) (z := ([] : Str)) Q7))) ?_
      refine WL.run (d := 34) Q0 Q0 ?_
      refine WL.p Q0 (Yl.loadC0 sca9 Q0 (Sl.Ok.at_ (hs.okow (x := x2) (F := F2) Q1) ((getD_some (i := 3) (z := ([] : Str)) Q7))).2 Q0) ?_
      refine WL.run (d := 34) Q0 Q0 ?_
      refine WL.p Q0 (Yl.len_str str9 Q0) ?_
      refine WL.run (d := 34) Q0 Q0 ?_
      refine WL.p Q0 (Yl.gtr Q0 Q0) ?_
      refine WL.p Q0 (Yl.pickT Q0 Q0) ?_
      refine WL.next ?_
      refine WC.condS Q0 (fun h4 => ?_) (fun h4 => ?_)
      ·
       replace h4 := of_decide_eq_true h4
       refine WC.region ?_
       refine Qm ?_
       refine WL.p Q0 (Yl.indexAddr (k := 3) slt24 Q0 Q0 (hs.okow (x := x2) (F := F2) Q1) Q0 ((getD_some (i := 3) (z := ([] : Str)) Q7))) ?_
       refine WL.p Q0 (Yl.loadC0 sca9 Q0 (Sl.Ok.at_ (hs.okow (x := x2) (F := F2) Q1) ((getD_some (i := 3) (z := ([] : Str)) Q7))).2 Q0) ?_
       refine WL.p Q0 (Yl.slice_str (l := 6) str9 Q0 (by exact ⟨_, by rfl⟩) (by exact rfl) Q7 Q7) ?_
       refine WL.p Q0 (Yl.fieldAddr fa26_4 Q0) ?_
       refine WL.s (Yr.storeB hs Q0 Q0 Q0 Q5 Q3 Q0 (by exact szf9)) ?_
       clear hs; rintro _ w hs
       refine WL.nil ?_
       refine At.then_ ?_
       refine WC.seq' ?_
       refine WC.seq ?_
       refine WL.p Q0 (Yl.loadAB agg26 Q0 hs Q1 Q0 Q0) ?_
       have hpl9 : PPolicy.lg (⟨true, (x3.cut 1 x3.l.length), (x10.cut 1 x10.l.length), (x11.cut 1 x11.l.length), (((x2.l.getD 3 []).drop 6).take ((x2.l.getD 3 []).length - 6))⟩ : PPolicy) = polS s := by
        have e2 : x2.l = splitC 59 s := hx2
        have g0 : x3.l = splitC 32 ((splitC 59 s).getD 0 []) := by rw [← e2]; exact hx3
        have g1 : x10.l = splitC 32 ((splitC 59 s).getD 1 []) := by rw [← e2]; exact hx10
        have g2 : x11.l = splitC 32 ((splitC 59 s).getD 2 []) := by rw [← e2]; exact hx11
        have c0 : (x3.cut 1 x3.l.length).l = (splitC 32 ((splitC 59 s).getD 0 [])).tail := by rw [Sl.cut_full, g0, List.drop_one]
        have c1 : (x10.cut 1 x10.l.length).l = (splitC 32 ((splitC 59 s).getD 1 [])).tail := by rw [Sl.cut_full, g1, List.drop_one]
        have c2 : (x11.cut 1 x11.l.length).l = (splitC 32 ((splitC 59 s).getD 2 [])).tail := by rw [Sl.cut_full, g2, List.drop_one]
        simp only [PPolicy.lg, polS, polOf, c0, c1, c2, TPolicy.mk.injEq, true_and]
        rw [← e2]
        first
         | (rw [if_neg (show ¬ 3 < x2.l.length from fun h => by omega)]; done)
         | (rw [if_pos (show 3 < x2.l.length from Int.ofNat_lt.1 Q7)]; done)
         | (rw [if_pos (show 3 < x2.l.length from Int.ofNat_lt.1 Q7)]
            simp only [nonceS, nonceI]
            first
              | (rfl; done)
              | (rw [if_neg Q7]; done)
              | (rw [if_pos Q7, List.take_of_length_le (by simp)]; done)
              | (rw [if_pos Q7]; done))
       refine WL.callp hs Q0 (Yc.func Q0 fn62) (c_spec_FormatPolicy (⟨true, (x3.cut 1 x3.l.length), (x10.cut 1 x10.l.length), (x11.cut 1 x11.l.length), (((x2.l.getD 3 []).drop 6).take ((x2.l.getD 3 []).length - 6))⟩ : PPolicy) _ ⟨trivial, (Sl.Ok.cut (hs.okow (x := x3) (F := F3) Q1) (by rw [hx3]; exact List.length_pos_iff.2 (splitC_ne _ _)) (by exact Nat.le_refl _)), (Sl.Ok.cut (hs.okow (x := x10) (F := F10) Q1) (by rw [hx10]; exact List.length_pos_iff.2 (splitC_ne _ _)) (by exact Nat.le_refl _)), (Sl.Ok.cut (hs.okow (x := x11) (F := F11) Q1) (by rw [hx11]; exact List.length_pos_iff.2 (splitC_ne _ _)) (by exact Nat.le_refl _)), (by show WfS _; unfold WfS; simp only [List.length_take, List.length_drop]; omega)⟩ (by rw [hpl9]; have := polS_size (s := s) (by rw [← show x2.l = splitC 59 s from hx2]; omega); omega)) ?_
       clear hs; intro w hs
       refine Qm ?_
       refine WL.p Q0 (Yl.nes Q0 Q0) ?_
       refine WL.next ?_
       refine WC.condS Q0 (fun h5 => ?_) (fun h5 => ?_)
       ·
        replace h5 := not_eq_true h5
        replace h5 := of_decide_eq_false h5
        refine WC.seq ?_
        refine WL.p Q0 (Yl.build bt26 Q0 Q4) ?_
        refine WL.s (Yr.storeB hs Q0 Q0 Q0 Q5 Q3 Q0 (by exact szf26)) ?_
        clear hs; rintro _ w hs
        refine Qa ?_
        refine WL.next ?_
        refine WC.ret ?_
        refine At.thenret ?_
        refine fin2c rfl agg26 Q0 Q0 hs Q1 Q0 ?_
        refine Ret.mk hs ?_
        rw [hpl9] at h5
        have hb9 : policyIs s = false := policyIs_bad h1 h5
        exact ⟨⟨false, ⟨[], none, 0⟩, ⟨[], none, 0⟩, ⟨[], none, 0⟩, []⟩, by rw [hb9]; rfl, (policyOf_no (.inr hb9)).symm, ⟨⟨[], PPolicy.zown _, .nil, fun b h => by cases h⟩⟩⟩
       ·
        replace h5 := not_eq_false h5
        replace h5 := of_decide_eq_true h5
        refine WC.skipn ?_
        refine WC.seq ?_
        refine WL.p Q0 (Yl.loadAB agg26 Q0 hs Q1 Q0 Q0) ?_
        refine WL.s (Yr.storeB hs Q0 Q0 Q0 Q5 Q3 Q0 (by exact szf26)) ?_
        clear hs; rintro _ w hs
        refine Qa ?_
        refine WL.next ?_
        refine WC.ret ?_
        refine fin2c rfl agg26 Q0 Q0 hs Q1 Q0 ?_
        refine Ret.mk hs ?_
        rw [hpl9] at h5
        have hq9 : x2.l = splitC 59 s := hx2
        have h49 : 3 ≤ (splitC 59 s).length := by rw [← hq9]; omega
        have hb9 : policyIs s = true := policyIs_good h5 h49
        obtain ⟨G90, hs⟩ := Sat.cutow (lo := 1) (hi := x3.l.length) (hs.sel (D := [ow x3 F3]) Q2) (by rw [hx3]; exact List.length_pos_iff.2 (splitC_ne _ _)) (Nat.le_refl _)
        obtain ⟨G91, hs⟩ := Sat.cutow (lo := 1) (hi := x10.l.length) (hs.sel (D := [ow x10 F10]) Q2) (by rw [hx10]; exact List.length_pos_iff.2 (splitC_ne _ _)) (Nat.le_refl _)
        obtain ⟨G92, hs⟩ := Sat.cutow (lo := 1) (hi := x11.l.length) (hs.sel (D := [ow x11 F11]) Q2) (by rw [hx11]; exact List.length_pos_iff.2 (splitC_ne _ _)) (Nat.le_refl _)
        refine ⟨(⟨true, (x3.cut 1 x3.l.length), (x10.cut 1 x10.l.length), (x11.cut 1 x11.l.length), (((x2.l.getD 3 []).drop 6).take ((x2.l.getD 3 []).length - 6))⟩ : PPolicy), by rw [hb9]; rfl, hpl9.trans (policyOf_good h1 hb9).symm, ?_⟩
        exact (PPolicy.join _ (hs.only (D := [ow (x3.cut 1 x3.l.length) G90, ow (x10.cut 1 x10.l.length) G91, ow (x11.cut 1 x11.l.length) G92]) Q2) trivial (by show WfS _; unfold WfS; first | (simp only [List.length_take, List.length_drop]; omega) | simp)).fresh List.mem_cons_self
      ·
       replace h4 := of_decide_eq_false h4
       refine WC.skipn ?_
       refine WC.seq' ?_
       refine WC.seq ?_
       refine WL.p Q0 (Yl.loadAB agg26 Q0 hs Q1 Q0 Q0) ?_
       have hpl9 : PPolicy.lg (⟨true, (x3.cut 1 x3.l.length), (x10.cut 1 x10.l.length), (x11.cut 1 x11.l.length), ([] : Str)⟩ : PPolicy) = polS s := by
        have e2 : x2.l = splitC 59 s := hx2
        have g0 : x3.l = splitC 32 ((splitC 59 s).getD 0 []) := by rw [← e2]; exact hx3
        have g1 : x10.l = splitC 32 ((splitC 59 s).getD 1 []) := by rw [← e2]; exact hx10
        have g2 : x11.l = splitC 32 ((splitC 59 s).getD 2 []) := by rw [← e2]; exact hx11
        have c0 : (x3.cut 1 x3.l.length).l = (splitC 32 ((splitC 59 s).getD 0 [])).tail := by rw [Sl.cut_full, g0, List.drop_one]
        have c1 : (x10.cut 1 x10.l.length).l = (splitC 32 ((splitC 59 s).getD 1 [])).tail := by rw [Sl.cut_full, g1, List.drop_one]
        have c2 : (x11.cut 1 x11.l.length).l = (splitC 32 ((splitC 59 s).getD 2 [])).tail := by rw [Sl.cut_full, g2, List.drop_one]
        simp only [PPolicy.lg, polS, polOf, c0, c1, c2, TPolicy.mk.injEq, true_and]
        rw [← e2]
        first
         | (rw [if_neg (show ¬ 3 < x2.l.length from fun h => by omega)]; done)
         | (rw [if_pos (show 3 < x2.l.length from Int.ofNat_lt.1 Q7)]; done)
         | (rw [if_pos (show 3 < x2.l.length from Int.ofNat_lt.1 Q7)]
            simp only [nonceS, nonceI]
            first
              | (rfl; done)
              | (rw [if_neg Q7]; done)
              | (rw [if_pos Q7, List.take_of_length_le (by simp)]; done)
              | (rw [if_pos Q7]; done))
       refine WL.callp hs Q0 (Yc.func Q0 fn62) (c_spec_FormatPolicy (⟨true, (x3.cut 1 x3.l.length), (x10.cut 1 x10.l.length), (x11.cut 1 x11.l.length), ([] : Str)⟩ : PPolicy) _ ⟨trivial, (Sl.Ok.cut (hs.okow (x := x3) (F := F3) Q1) (by rw [hx3]; exact List.length_pos_iff.2 (splitC_ne _ _)) (by exact Nat.le_refl _)), (Sl.Ok.cut (hs.okow (x := x10) (F := F10) Q1) (by rw [hx10]; exact List.length_pos_iff.2 (splitC_ne _ _)) (by exact Nat.le_refl _)), (Sl.Ok.cut (hs.okow (x := x11) (F := F11) Q1) (by rw [hx11]; exact List.length_pos_iff.2 (splitC_ne _ _)) (by exact Nat.le_refl _)), (show WfS [] from Nat.zero_le _)⟩ (by rw [hpl9]; have := polS_size (s := s) (by rw [← show x2.l = splitC 59 s from hx2]; omega); omega)) ?_
       clear hs; intro w hs
       refine Qm ?_
       refine WL.p Q0 (Yl.nes Q0 Q0) ?_
       refine WL.next ?_
       refine WC.condS Q0 (fun h5 => ?_) (fun h5 => ?_)
       ·
        replace h5 := not_eq_true h5
        replace h5 := of_decide_eq_false h5
        refine WC.seq ?_
        refine WL.p Q0 (Yl.build bt26 Q0 Q4) ?_
        refine WL.s (Yr.storeB hs Q0 Q0 Q0 Q5 Q3 Q0 (by exact szf26)) ?_
        clear hs; rintro _ w hs
        refine Qa ?_
        refine WL.next ?_
        refine WC.ret ?_
        refine At.thenret ?_
        refine fin2c rfl agg26 Q0 Q0 hs Q1 Q0 ?_
        refine Ret.mk hs ?_
        rw [hpl9] at h5
        have hb9 : policyIs s = false := policyIs_bad h1 h5
        exact ⟨⟨false, ⟨[], none, 0⟩, ⟨[], none, 0⟩, ⟨[], none, 0⟩, []⟩, by rw [hb9]; rfl, (policyOf_no (.inr hb9)).symm, ⟨⟨[], PPolicy.zown _, .nil, fun b h => by cases h⟩⟩⟩
       ·
        replace h5 := not_eq_false h5
        replace h5 := of_decide_eq_true h5
        refine WC.skipn ?_
        refine WC.seq ?_
        refine WL.p Q0 (Yl.loadAB agg26 Q0 hs Q1 Q0 Q0) ?_
        refine WL.s (Yr.storeB hs Q0 Q0 Q0 Q5 Q3 Q0 (by exact szf26)) ?_
        clear hs; rintro _ w hs
        refine Qa ?_
        refine WL.next ?_
        refine WC.ret ?_
        refine fin2c rfl agg26 Q0 Q0 hs Q1 Q0 ?_
        refine Ret.mk hs ?_
        rw [hpl9] at h5
        have hq9 : x2.l = splitC 59 s := hx2
        have h49 : 3 ≤ (splitC 59 s).length := by rw [← hq9]; omega
        have hb9 : policyIs s = true := policyIs_good h5 h49
        obtain ⟨G90, hs⟩ := Sat.cutow (lo := 1) (hi := x3.l.length) (hs.sel (D := [ow x3 F3]) Q2) (by rw [hx3]; exact List.length_pos_iff.2 (splitC_ne _ _)) (Nat.le_refl _)
        obtain ⟨G91, hs⟩ := Sat.cutow (lo := 1) (hi := x10.l.length) (hs.sel (D := [ow x10 F10]) Q2) (by rw [hx10]; exact List.length_pos_iff.2 (splitC_ne _ _)) (Nat.le_refl _)
        obtain ⟨G92, hs⟩ := Sat.cutow (lo := 1) (hi := x11.l.length) (hs.sel (D := [ow x11 F11]) Q2) (by rw [hx11]; exact List.length_pos_iff.2 (splitC_ne _ _)) (Nat.le_refl _)
        refine ⟨(⟨true, (x3.cut 1 x3.l.length), (x10.cut 1 x10.l.length), (x11.cut 1 x11.l.length), ([] : Str)⟩ : PPolicy), by rw [hb9]; rfl, hpl9.trans (policyOf_good h1 hb9).symm, ?_⟩
        exact (PPolicy.join _ (hs.only (D := [ow (x3.cut 1 x3.l.length) G90, ow (x10.cut 1 x10.l.length) G91, ow (x11.cut 1 x11.l.length) G92]) Q2) trivial (by show WfS _; unfold WfS; first | (simp only [List.length_take, List.length_drop]; omega) | simp)).fresh List.mem_cons_self
     ·
      replace h3 := of_decide_eq_false h3
      refine WL.skip (d := 34) Q0 Q0 Q0 Q0 ?_
      refine WL.skip (d := 34) Q0 Q0 Q0 Q0 ?_
      refine WL.skip (d := 34) Q0 Q0 Q0 Q0 ?_
      refine WL.skip (d := 34) Q0 Q0 Q0 Q0 ?_
      refine WL.skip (d := 34) Q0 Q0 Q0 Q0 ?_
      refine WL.p Q0 (Yl.pickF Q0 Q0) ?_
      refine WL.next ?_
      refine WC.condF Q0 ?_
      refine WC.skipn ?_
      refine WC.seq' ?_
      refine WC.seq ?_
      refine WL.p Q0 (Yl.loadAB agg26 Q0 hs Q1 Q0 Q0) ?_
      have hpl9 : PPolicy.lg (⟨true, (x3.cut 1 x3.l.length), (x10.cut 1 x10.l.length), (x11.cut 1 x11.l.length), ([] : Str)⟩ : PPolicy) = polS s := by
       have e2 : x2.l = splitC 59 s := hx2
       have g0 : x3.l = splitC 32 ((splitC 59 s).getD 0 []) := by rw [← e2]; exact hx3
       have g1 : x10.l = splitC 32 ((splitC 59 s).getD 1 []) := by rw [← e2]; exact hx10
       have g2 : x11.l = splitC 32 ((splitC 59 s).getD 2 []) := by rw [← e2]; exact hx11
       have c0 : (x3.cut 1 x3.l.length).l = (splitC 32 ((splitC 59 s).getD 0 [])).tail := by rw [Sl.cut_full, g0, List.drop_one]
       have c1 : (x10.cut 1 x10.l.length).l = (splitC 32 ((splitC 59 s).getD 1 [])).tail := by rw [Sl.cut_full, g1, List.drop_one]
       have c2 : (x11.cut 1 x11.l.length).l = (splitC 32 ((splitC 59 s).getD 2 [])).tail := by rw [Sl.cut_full, g2, List.drop_one]
       simp only [PPolicy.lg, polS, polOf, c0, c1, c2, TPolicy.mk.injEq, true_and]
       rw [← e2]
       first
        | (rw [if_neg (show ¬ 3 < x2.l.length from fun h => by omega)]; done)
        | (rw [if_pos (show 3 < x2.l.length from Int.ofNat_lt.1 Q7)]; done)
        | (rw [if_pos (show 3 < x2.l.length from Int.ofNat_lt.1 Q7)]
           simp only [nonceS, nonceI]
           first
             | (rfl; done)
             | (rw [if_neg Q7]; done)
             | (rw [if_pos Q7, List.take_of_length_le (by simp)]; done)
             | (rw [if_pos Q7]; done))
      refine WL.callp hs Q0 (Yc.func Q0 fn62) (c_spec_FormatPolicy (⟨true, (x3.cut 1 x3.l.length), (x10.cut 1 x10.l.length), (x11.cut 1 x11.l.length), ([] : Str)⟩ : PPolicy) _ ⟨trivial, (Sl.Ok.cut (hs.okow (x := x3) (F := F3) Q1) (by rw [hx3]; exact List.length_pos_iff.2 (splitC_ne _ _)) (by exact Nat.le_refl _)), (Sl.Ok.cut (hs.okow (x := x10) (F := F10) Q1) (by rw [hx10]; exact List.length_pos_iff.2 (splitC_ne _ _)) (by exact Nat.le_refl _)), (Sl.Ok.cut (hs.okow (x := x11) (F := F11) Q1) (by rw [hx11]; exact List.length_pos_iff.2 (splitC_ne _ _)) (by exact Nat.le_refl _)), (show WfS [] from Nat.zero_le _)⟩ (by rw [hpl9]; have := polS_size (s := s) (by rw [← show x2.l = splitC 59 s from hx2]; omega); omega)) ?_
      clear hs; intro w hs
      refine Qm ?_
      refine WL.p Q0 (Yl.nes Q0 Q0) ?_
      refine WL.next ?_
      refine WC.condS Q0 (fun h4 => ?_) (fun h4 => ?_)
      ·
       replace h4 := not_eq_true h4
       replace h4 := of_decide_eq_false h4
       refine WC.seq ?_
       refine WL.p Q0 (Yl.build bt26 Q0 Q4) ?_
       refine WL.s (Yr.storeB hs Q0 Q0 Q0 Q5 Q3 Q0 (by exact szf26)) ?_
       clear hs; rintro _ w hs
       refine Qa ?_
       refine WL.next ?_
       refine WC.ret ?_
       refine At.thenret ?_
       refine fin2c rfl agg26 Q0 Q0 hs Q1 Q0 ?_
       refine Ret.mk hs ?_
       rw [hpl9] at h4
       have hb9 : policyIs s = false := policyIs_bad h1 h4
       exact ⟨⟨false, ⟨[], none, 0⟩, ⟨[], none, 0⟩, ⟨[], none, 0⟩, []⟩, by rw [hb9]; rfl, (policyOf_no (.inr hb9)).symm, ⟨⟨[], PPolicy.zown _, .nil, fun b h => by cases h⟩⟩⟩
      ·
       replace h4 := not_eq_false h4
       replace h4 := of_decide_eq_true h4
       refine WC.skipn ?_
       refine WC.seq ?_
       refine WL.p Q0 (Yl.loadAB agg26 Q0 hs Q1 Q0 Q0) ?_
       refine WL.s (Yr.storeB hs Q0 Q0 Q0 Q5 Q3 Q0 (by exact szf26)) ?_
       clear hs; rintro _ w hs
       refine Qa ?_
       refine WL.next ?_
       refine WC.ret ?_
       refine fin2c rfl agg26 Q0 Q0 hs Q1 Q0 ?_
       refine Ret.mk hs ?_
       rw [hpl9] at h4
       have hq9 : x2.l = splitC 59 s := hx2
       have h49 : 3 ≤ (splitC 59 s).length := by rw [← hq9]; omega
       have hb9 : policyIs s = true := policyIs_good h4 h49
       obtain ⟨G90, hs⟩ := Sat.cutow (lo := 1) (hi := x3.l.length) (hs.sel (D := [ow x3 F3]) Q2) (by rw [hx3]; exact List.length_pos_iff.2 (splitC_ne _ _)) (Nat.le_refl _)
       obtain ⟨G91, hs⟩ := Sat.cutow (lo := 1) (hi := x10.l.length) (hs.sel (D := [ow x10 F10]) Q2) (by rw [hx10]; exact List.length_pos_iff.2 (splitC_ne _ _)) (Nat.le_refl _)
       obtain ⟨G92, hs⟩ := Sat.cutow (lo := 1) (hi := x11.l.length) (hs.sel (D := [ow x11 F11]) Q2) (by rw [hx11]; exact List.length_pos_iff.2 (splitC_ne _ _)) (Nat.le_refl _)
       refine ⟨(⟨true, (x3.cut 1 x3.l.length), (x10.cut 1 x10.l.length), (x11.cut 1 x11.l.length), ([] : Str)⟩ : PPolicy), by rw [hb9]; rfl, hpl9.trans (policyOf_good h1 hb9).symm, ?_⟩
       exact (PPolicy.join _ (hs.only (D := [ow (x3.cut 1 x3.l.length) G90, ow (x10.cut 1 x10.l.length) G91, ow (x11.cut 1 x11.l.length) G92]) Q2) trivial (by show WfS _; unfold WfS; first | (simp only [List.length_take, List.length_drop]; omega) | simp)).fresh List.mem_cons_self
   ·
    refine WI.r (i := 16) Q0 Q0 (Yr.alloc hs zt26) (by rintro _ w ⟨b12, rfl, hb, hs⟩; exact hs.only Q2) ?_
    clear hs; rintro _ w ⟨b12, rfl, hb, hs⟩; clear hb
    refine WA.call2 (i := 3) hs (fun _ hs => hs.only Q2) Q6 Q0 Q0 (Yc.func Q0 fn64) (c_spec_l5Split _ 32 _ (by first | (have := getD_len (s := s) (i := 0); rw [← show x2.l = splitC 59 s from hx2] at this; omega) | (have := getD_len (s := s) (i := 1); rw [← show x2.l = splitC 59 s from hx2] at this; omega) | (have := getD_len (s := s) (i := 2); rw [← show x2.l = splitC 59 s from hx2] at this; omega) | (have := getD_len (s := s) (i := 3); rw [← show x2.l = splitC 59 s from hx2] at this; omega))) ?_
    have hs0 := hs; clear hs; intro v w hb hR hs; clear hs
    obtain ⟨x13, rfl, hx13, hf13⟩ := hR
    obtain ⟨F13, hs⟩ := hf13.sat hs0 hb; clear hs0 hf13
    have hle13 := Sl.Ok.le (hs.okow (x := x13) (F := F13) Q1)
    refine WA.p (i := 4) Q0 Q6 Q6 Q6 Q0 (hs.only Q2) (fun w hs => Yl.slice_sl (s := x13) (l := 1) (h := x13.l.length) slt24 Q0 hle13 (by exact ⟨_, by rfl⟩) (by exact rfl) (by rw [hx13]; exact List.length_pos_iff.2 (splitC_ne _ _)) (by exact Nat.le_refl _)) ?_
    refine WA.call2 (i := 8) hs (fun _ hs => hs.only Q2) Q6 Q0 Q0 (Yc.func Q0 fn64) (c_spec_l5Split _ 32 _ (by first | (have := getD_len (s := s) (i := 0); rw [← show x2.l = splitC 59 s from hx2] at this; omega) | (have := getD_len (s := s) (i := 1); rw [← show x2.l = splitC 59 s from hx2] at this; omega) | (have := getD_len (s := s) (i := 2); rw [← show x2.l = splitC 59 s from hx2] at this; omega) | (have := getD_len (s := s) (i := 3); rw [← show x2.l = splitC 59 s from hx2] at this; omega))) ?_
    have hs0 := hs; clear hs; intro v w hb hR hs; clear hs
    obtain ⟨x14, rfl, hx14, hf14⟩ := hR
    obtain ⟨F14, hs⟩ := hf14.sat hs0 hb; clear hs0 hf14
    have hle14 := Sl.Ok.le (hs.okow (x := x14) (F := F14) Q1)
    refine WA.p (i := 9) Q0 Q6 Q6 Q6 Q0 (hs.only Q2) (fun w hs => Yl.slice_sl (s := x14) (l := 1) (h := x14.l.length) slt24 Q0 hle14 (by exact ⟨_, by rfl⟩) (by exact rfl) (by rw [hx14]; exact List.length_pos_iff.2 (splitC_ne _ _)) (by exact Nat.le_refl _)) ?_
    refine WA.call2 (i := 13) hs (fun _ hs => hs.only Q2) Q6 Q0 Q0 (Yc.func Q0 fn64) (c_spec_l5Split _ 32 _ (by first | (have := getD_len (s := s) (i := 0); rw [← show x2.l = splitC 59 s from hx2] at this; omega) | (have := getD_len (s := s) (i := 1); rw [← show x2.l = splitC 59 s from hx2] at this; omega) | (have := getD_len (s := s) (i := 2); rw [← show x2.l = splitC 59 s from hx2] at this; omega) | (have := getD_len (s := s) (i := 3); rw [← show x2.l = splitC 59 s from hx2] at this; omega))) ?_
    have hs0 := hs; clear hs; intro v w hb hR hs; clear hs
    obtain ⟨x15, rfl, hx15, hf15⟩ := hR
    obtain ⟨F15, hs⟩ := hf15.sat hs0 hb; clear hs0 hf15
    have hle15 := Sl.Ok.le (hs.okow (x := x15) (F := F15) Q1)
    refine WA.r (i := 14) Q6 Q0 Q0 (Yl.yr (Yl.slice_sl (s := x15) (l := 1) (h := x15.l.length) slt24 Q0 hle15 (by exact ⟨_, by rfl⟩) (by exact rfl) (by rw [hx15]; exact List.length_pos_iff.2 (splitC_ne _ _)) (by exact Nat.le_refl _))) (by rintro _ _ ⟨rfl, rfl⟩; exact hs.only Q2) ?_
    rintro _ _ ⟨rfl, rfl⟩
    refine WA.p (i := 15) Q0 Q6 Q6 Q6 Q0 (hs.only Q2) (fun w hs => Yl.build bt26 Q0 Q4) ?_
    refine WA.s (i := 17) Q6 Q0 (Yr.storeB hs Q0 Q0 Q0 Q5 Q3 Q0 (by exact szf26)) (by rintro _ w hs; exact hs.only Q2) ?_
    clear hs; rintro _ w hs
    refine WA.donen Q6 ?_
    refine WC.seq' ?_
    refine WC.seq ?_
    refine Qm ?_
    refine WL.p Q0 (Yl.len_sl slu24 Q0) ?_
    refine WL.p Q0 (Yl.gtr Q0 Q0) ?_
    refine Qm ?_
    refine WL.split (d := 34) Q0 (fun h3 => ?_) (fun h3 => ?_)
    ·
     replace h3 := of_decide_eq_true h3
     refine WL.run (d := 34) Q0 Q0 ?_
     refine Qm ?_
     refine WL.run (d := 34) Q0 Q0 ?_
     refine WL.p Q0 (Yl.indexAddr (k := 3) slt24 Q0 Q0 (hs.okow (x := x2) (F := F2) Q1) Q0 ((getD_some (i := 3) (z := ([] : Str)) Q7))) ?_
     refine WL.run (d := 34) Q0 Q0 ?_
     refine WL.p Q0 (Yl.loadC0 sca9 Q0 (Sl.Ok.at_ (hs.okow (x := x2) (F := F2) Q1) ((getD_some (i := 3) (z := ([] : Str)) Q7))).2 Q0) ?_
     refine WL.run (d := 34) Q0 Q0 ?_
     refine WL.p Q0 (Yl.len_str str9 Q0) ?_
     refine WL.run (d := 34) Q0 Q0 ?_
     refine WL.p Q0 (Yl.gtr Q0 Q0) ?_
     refine WL.p Q0 (Yl.pickT Q0 Q0) ?_
     refine WL.next ?_
     refine WC.condS Q0 (fun h4 => ?_) (fun h4 => ?_)
     ·
      replace h4 := of_decide_eq_true h4
      refine WC.region ?_
      refine Qm ?_
      refine WL.p Q0 (Yl.indexAddr (k := 3) slt24 Q0 Q0 (hs.okow (x := x2) (F := F2) Q1) Q0 ((getD_some (i := 3) (z := ([] : Str)) Q7))) ?_
      refine WL.p Q0 (Yl.loadC0 sca9 Q0 (Sl.Ok.at_ (hs.okow (x := x2) (F := F2) Q1) ((getD_some (i := 3) (z := ([] : Str)) Q7))).2 Q0) ?_
      refine WL.p Q0 (Yl.slice_str (l := 6) str9 Q0 (by exact ⟨_, by rfl⟩) (by exact rfl) Q7 Q7) ?_
      refine WL.p Q0 (Yl.fieldAddr fa26_4 Q0) ?_
      refine WL.s (Yr.storeB hs Q0 Q0 Q0 Q5 Q3 Q0 (by exact szf9)) ?_
      clear hs; rintro _ w hs
      refine WL.nil ?_
      refine At.then_ ?_
      refine WC.seq' ?_
      refine WC.seq ?_
      refine WL.p Q0 (Yl.loadAB agg26 Q0 hs Q1 Q0 Q0) ?_
      have hpl9 : PPolicy.lg (⟨true, (x13.cut 1 x13.l.length), (x14.cut 1 x14.l.length), (x15.cut 1 x15.l.length), (((x2.l.getD 3 []).drop 6).take ((x2.l.getD 3 []).length - 6))⟩ : PPolicy) = polS s := by
       have e2 : x2.l = splitC 59 s := hx2
       have g0 : x13.l = splitC 32 ((splitC 59 s).getD 0 []) := by rw [← e2]; exact hx13
       have g1 : x14.l = splitC 32 ((splitC 59 s).getD 1 []) := by rw [← e2]; exact hx14
       have g2 : x15.l = splitC 32 ((splitC 59 s).getD 2 []) := by rw [← e2]; exact hx15
       have c0 : (x13.cut 1 x13.l.length).l = (splitC 32 ((splitC 59 s).getD 0 [])).tail := by rw [Sl.cut_full, g0, List.drop_one]
       have c1 : (x14.cut 1 x14.l.length).l = (splitC 32 ((splitC 59 s).getD 1 [])).tail := by rw [Sl.cut_full, g1, List.drop_one]
       have c2 : (x15.cut 1 x15.l.length).l = (splitC 32 ((splitC 59 s).getD 2 [])).tail := by rw [Sl.cut_full, g2, List.drop_one]
       simp only [PPolicy.lg, polS, polOf, c0, c1, c2, TPolicy.mk.injEq, true_and]
       rw [← e2]
       first
        | (rw [if_neg (show ¬ 3 < x2.l.length from fun h => by omega)]; done)
        | (rw [if_pos (show 3 < x2.l.length from Int.ofNat_lt.1 Q7)]; done)
        | (rw [if_pos (show 3 < x2.l.length from Int.ofNat_lt.1 Q7)]
           simp only [nonceS, nonceI]
           first
             | (rfl; done)
             | (rw [if_neg Q7]; done)
             | (rw [if_pos Q7, List.take_of_length_le (by simp)]; done)
             | (rw [if_pos Q7]; done))
      refine WL.callp hs Q0 (Yc.func Q0 fn62) (c_spec_FormatPolicy (⟨true, (x13.cut 1 x13.l.length), (x14.cut 1 x14.l.length), (x15.cut 1 x15.l.length), (((x2.l.getD 3 []).drop 6).take ((x2.l.getD 3 []).length - 6))⟩ : PPolicy) _ ⟨trivial, (Sl.Ok.cut (hs.okow (x := x13) (F := F13) Q1) (by rw [hx13]; exact List.length_pos_iff.2 (splitC_ne _ _)) (by exact Nat.le_refl _)), (Sl.Ok.cut (hs.okow (x := x14) (F := F14) Q1) (by rw [hx14]; exact List.length_pos_iff.2 (splitC_ne _ _)) (by exact Nat.le_refl _)), (Sl.Ok.cut (hs.okow (x := x15) (F := F15) Q1) (by rw [hx15]; exact List.length_pos_iff.2 (splitC_ne _ _)) (by exact Nat.le_refl _)), (by show WfS _; unfold WfS; simp only [List.length_take, List.length_drop]; omega)⟩ (by rw [hpl9]; have := polS_size (s := s) (by rw [← show x2.l = splitC 59 s from hx2]; omega); omega)) ?_
      clear hs; intro w hs
      refine Qm ?_
      refine WL.p Q0 (Yl.nes Q0 Q0) ?_
      refine WL.next ?_
      refine WC.condS Q0 (fun h5 => ?_) (fun h5 => ?_)
      ·
       replace h5 := not_eq_true h5
       replace h5 := of_decide_eq_false h5
       refine WC.seq ?_
       refine WL.p Q0 (Yl.build bt26 Q0 Q4) ?_
       refine WL.s (Yr.storeB hs Q0 Q0 Q0 Q5 Q3 Q0 (by exact szf26)) ?_
       clear hs; rintro _ w hs
       refine Qa ?_
       refine WL.next ?_
       refine WC.ret ?_
       refine At.thenret ?_
       refine fin2c rfl agg26 Q0 Q0 hs Q1 Q0 ?_
       refine Ret.mk hs ?_
       rw [hpl9] at h5
       have hb9 : policyIs s = false := policyIs_bad h1 h5
       exact ⟨⟨false, ⟨[], none, 0⟩, ⟨[], none, 0⟩, ⟨[], none, 0⟩, []⟩, by rw [hb9]; rfl, (policyOf_no (.inr hb9)).symm, ⟨⟨[], PPolicy.zown _, .nil, fun b h => by cases h⟩⟩⟩
      ·
       replace h5 := not_eq_false h5
       replace h5 := of_decide_eq_true h5
       refine WC.skipn ?_
       refine WC.seq ?_
       refine WL.p Q0 (Yl.loadAB agg26 Q0 hs Q1 Q0 Q0) ?_
       refine WL.s (Yr.storeB hs Q0 Q0 Q0 Q5 Q3 Q0 (by exact szf26)) ?_
       clear hs; rintro _ w hs
       refine Qa ?_
       refine WL.next ?_
       refine WC.ret ?_
       refine fin2c rfl agg26 Q0 Q0 hs Q1 Q0 ?_
       refine Ret.mk hs ?_
       rw [hpl9] at h5
       have hq9 : x2.l = splitC 59 s := hx2
       have h49 : 3 ≤ (splitC 59 s).length := by rw [← hq9]; omega
       have hb9 : policyIs s = true := policyIs_good h5 h49
       obtain ⟨G90, hs⟩ := Sat.cutow (lo := 1) (hi := x13.l.length) (hs.sel (D := [ow x13 F13]) Q2) (by rw [hx13]; exact List.length_pos_iff.2 (splitC_ne _ _)) (Nat.le_refl _)
       obtain ⟨G91, hs⟩ := Sat.cutow (lo := 1) (hi := x14.l.length) (hs.sel (D := [ow x14 F14]) Q2) (by rw [hx14]; exact List.length_pos_iff.2 (splitC_ne _ _)) (Nat.le_refl _)
       obtain ⟨G92, hs⟩ := Sat.cutow (lo := 1) (hi := x15.l.length) (hs.sel (D := [ow x15 F15]) Q2) (by rw [hx15]; exact List.length_pos_iff.2 (splitC_ne _ _)) (Nat.le_refl _)
       refine ⟨(⟨true, (x13.cut 1 x13.l.length), (x14.cut 1 x14.l.length), (x15.cut 1 x15.l.length), (((x2.l.getD 3 []).drop 6).take ((x2.l.getD 3 []).length - 6))⟩ : PPolicy), by rw [hb9]; rfl, hpl9.trans (policyOf_good h1 hb9).symm, ?_⟩
       exact (PPolicy.join _ (hs.only (D := [ow (x13.cut 1 x13.l.length) G90, ow (x14.cut 1 x14.l.length) G91, ow (x15.cut 1 x15.l.length) G92]) Q2) trivial (by show WfS _; unfold WfS; first | (simp only [List.length_take, List.length_drop]; omega) | simp)).fresh List.mem_cons_self
     ·
      replace h4 := of_decide_eq_false h4
      refine WC.skipn ?_
      refine WC.seq' ?_
      refine WC.seq ?_
      refine WL.p Q0 (Yl.loadAB agg26 Q0 hs Q1 Q0 Q0) ?_
      have hpl9 : PPolicy.lg (⟨true, (x13.cut 1 x13.l.length), (x14.cut 1 x14.l.length), (x15.cut 1 x15.l.length), ([] : Str)⟩ : PPolicy) = polS s := by
       have e2 : x2.l = splitC 59 s := hx2
       have g0 : x13.l = splitC 32 ((splitC 59 s).getD 0 []) := by rw [← e2]; exact hx13
       have g1 : x14.l = splitC 32 ((splitC 59 s).getD 1 []) := by rw [← e2]; exact hx14
       have g2 : x15.l = splitC 32 ((splitC 59 s).getD 2 []) := by rw [← e2]; exact hx15
       have c0 : (x13.cut 1 x13.l.length).l = (splitC 32 ((splitC 59 s).getD 0 [])).tail := by rw [Sl.cut_full, g0, List.drop_one]
       have c1 : (x14.cut 1 x14.l.length).l = (splitC 32 ((splitC 59 s).getD 1 [])).tail := by rw [Sl.cut_full, g1, List.drop_one]
       have c2 : (x15.cut 1 x15.l.length).l = (splitC 32 ((splitC 59 s).getD 2 [])).tail := by rw [Sl.cut_full, g2, List.drop_one]
       simp only [PPolicy.lg, polS, polOf, c0, c1, c2, TPolicy.mk.injEq, true_and]
       rw [← e2]
       first
        | (rw [if_neg (show ¬ 3 < x2.l.length from fun h => by omega)]; done)
        | (rw [if_pos (show 3 < x2.l.length from Int.ofNat_lt.1 Q7)]; done)
        | (rw [if_pos (show 3 < x2.l.length from Int.ofNat_lt.1 Q7)]
           simp only [nonceS, nonceI]
           first
             | (rfl; done)
             | (rw [if_neg Q7]; done)
             | (rw [if_pos Q7, List.take_of_length_le (by simp)]; done)
             | (rw [if_pos Q7]; done))
      refine WL.callp hs Q0 (Yc.func Q0 fn62) (c_spec_FormatPolicy (⟨true, (x13.cut 1 x13.l.length), (x14.cut 1 x14.l.length), (x15.cut 1 x15.l.length), ([] : Str)⟩ : PPolicy) _ ⟨trivial, (Sl.Ok.cut (hs.okow (x := x13) (F := F13) Q1) (by rw [hx13]; exact List.length_pos_iff.2 (splitC_ne _ _)) (by exact Nat.le_refl _)), (Sl.Ok.cut (hs.okow (x := x14) (F := F14) Q1) (by rw [hx14]; exact List.length_pos_iff.2 (splitC_ne _ _)) (by exact Nat.le_refl _)), (Sl.Ok.cut (hs.okow (x := x15) (F := F15) Q1) (by rw [hx15]; exact List.length_pos_iff.2 (splitC_ne _ _)) (by exact Nat.le_refl _)), (show WfS [] from Nat.zero_le _)⟩ (by rw [hpl9]; have := polS_size (s := s) (by rw [← show x2.l = splitC 59 s from hx2]; omega); omega)) ?_
      clear hs; intro w hs
      refine Qm ?_
      refine WL.p Q0 (Yl.nes Q0 Q0) ?_
      refine WL.next ?_
      refine WC.condS Q0 (fun h5 => ?_) (fun h5 => ?_)
      ·
       replace h5 := not_eq_true h5
       replace h5 := of_decide_eq_false h5
       refine WC.seq ?_
       refine WL.p Q0 (Yl.build bt26 Q0 Q4) ?_
       refine WL.s (Yr.storeB hs Q0 Q0 Q0 Q5 Q3 Q0 (by exact szf26)) ?_
       clear hs; rintro _ w hs
       refine Qa ?_
       refine WL.next ?_
       refine WC.ret ?_
       refine At.thenret ?_
       refine fin2c rfl agg26 Q0 Q0 hs Q1 Q0 ?_
       refine Ret.mk hs ?_
       rw [hpl9] at h5
       have hb9 : policyIs s = false := policyIs_bad h1 h5
       exact ⟨⟨false, ⟨[], none, 0⟩, ⟨[], none, 0⟩, ⟨[], none, 0⟩, []⟩, by rw [hb9]; rfl, (policyOf_no (.inr hb9)).symm, ⟨⟨[], PPolicy.zown _, .nil, fun b h => by cases h⟩⟩⟩
      ·
       replace h5 := not_eq_false h5
       replace h5 := of_decide_eq_true h5
       refine WC.skipn ?_
       refine WC.seq ?_
       refine WL.p Q0 (Yl.loadAB agg26 Q0 hs Q1 Q0 Q0) ?_
       refine WL.s (Yr.storeB hs Q0 Q0 Q0 Q5 Q3 Q0 (by exact szf26)) ?_
       clear hs; rintro _ w hs
       refine Qa ?_
       refine WL.next ?_
       refine WC.ret ?_
       refine fin2c rfl agg26 Q0 Q0 hs Q1 Q0 ?_
       refine Ret.mk hs ?_
       rw [hpl9] at h5
       have hq9 : x2.l = splitC 59 s := hx2
       have h49 : 3 ≤ (splitC 59 s).length := by rw [← hq9]; omega
       have hb9 : policyIs s = true := policyIs_good h5 h49
       obtain ⟨G90, hs⟩ := Sat.cutow (lo := 1) (hi := x13.l.length) (hs.sel (D := [ow x13 F13]) Q2) (by rw [hx13]; exact List.length_pos_iff.2 (splitC_ne _ _)) (Nat.le_refl _)
       obtain ⟨G91, hs⟩ := Sat.cutow (lo := 1) (hi := x14.l.length) (hs.sel (D := [ow x14 F14]) Q2) (by rw [hx14]; exact List.length_pos_iff.2 (splitC_ne _ _)) (Nat.le_refl _)
       obtain ⟨G92, hs⟩ := Sat.cutow (lo := 1) (hi := x15.l.length) (hs.sel (D := [ow x15 F15]) Q2) (by rw [hx15]; exact List.length_pos_iff.2 (splitC_ne _ _)) (Nat.le_refl _)
       refine ⟨(⟨true, (x13.cut 1 x13.l.length), (x14.cut 1 x14.l.length), (x15.cut 1 x15.l.length), ([] : Str)⟩ : PPolicy), by rw [hb9]; rfl, hpl9.trans (policyOf_good h1 hb9).symm, ?_⟩
       exact (PPolicy.join _ (hs.only (D := [ow (x13.cut 1 x13.l.length) G90, ow (x14.cut 1 x14.l.length) G91, ow (x15.cut 1 x15.l.length) G92]) Q2) trivial (by show WfS _; unfold WfS; first | (simp only [List.length_take, List.length_drop]; omega) | simp)).fresh List.mem_cons_self
    ·
     replace h3 := of_decide_eq_false h3
     refine WL.skip (d := 34) Q0 Q0 Q0 Q0 ?_
     refine WL.skip (d := 34) Q0 Q0 Q0 Q0 ?_
     refine WL.skip (d := 34) Q0 Q0 Q0 Q0 ?_
     refine WL.skip (d := 34) Q0 Q0 Q0 Q0 ?_
     refine WL.skip (d := 34) Q0 Q0 Q0 Q0 ?_
     refine WL.p Q0 (Yl.pickF Q0 Q0) ?_
     refine WL.next ?_
     refine WC.condF Q0 ?_
     refine WC.skipn ?_
     refine WC.seq' ?_
     refine WC.seq ?_
     refine WL.p Q0 (Yl.loadAB agg26 Q0 hs Q1 Q0 Q0) ?_
     have hpl9 : PPolicy.lg (⟨true, (x13.cut 1 x13.l.length), (x14.cut 1 x14.l.length), (x15.cut 1 x15.l.length), ([] : Str)⟩ : PPolicy) = polS s := by
      have e2 : x2.l = splitC 59 s := hx2
      have g0 : x13.l = splitC 32 ((splitC 59 s).getD 0 []) := by rw [← e2]; exact hx13
      have g1 : x14.l = splitC 32 ((splitC 59 s).getD 1 []) := by rw [← e2]; exact hx14
      have g2 : x15.l = splitC 32 ((splitC 59 s).getD 2 []) := by rw [← e2]; exact hx15
      have c0 : (x13.cut 1 x13.l.length).l = (splitC 32 ((splitC 59 s).getD 0 [])).tail := by rw [Sl.cut_full, g0, List.drop_one]
      have c1 : (x14.cut 1 x14.l.length).l = (splitC 32 ((splitC 59 s).getD 1 [])).tail := by rw [Sl.cut_full, g1, List.drop_one]
      have c2 : (x15.cut 1 x15.l.length).l = (splitC 32 ((splitC 59 s).getD 2 [])).tail := by rw [Sl.cut_full, g2, List.drop_one]
      simp only [PPolicy.lg, polS, polOf, c0, c1, c2, TPolicy.mk.injEq, true_and]
      rw [← e2]
      first
       | (rw [if_neg (show ¬ 3 < x2.l.length from fun h => by omega)]; done)
       | (rw [if_pos (show 3 < x2.l.length from Int.ofNat_lt.1 Q7)]; done)
       | (rw [if_pos (show 3 < x2.l.length from Int.ofNat_lt.1 Q7)]
          simp only [nonceS, nonceI]
          first
            | (rfl; done)
            | (rw [if_neg Q7]; done)
            | (rw [if_pos Q7, List.take_of_length_le (by simp)]; done)
            | (rw [if_pos Q7]; done))
     refine WL.callp hs Q0 (Yc.func Q0 fn62) (c_spec_FormatPolicy (⟨true, (x13.cut 1 x13.l.length), (x14.cut 1 x14.l.length), (x15.cut 1 x15.l.length), ([] : Str)⟩ : PPolicy) _ ⟨trivial, (Sl.Ok.cut (hs.okow (x := x13) (F := F13) Q1) (by rw [hx13]; exact List.length_pos_iff.2 (splitC_ne _ _)) (by exact Nat.le_refl _)), (Sl.Ok.cut (hs.okow (x := x14) (F := F14) Q1) (by rw [hx14]; exact List.length_pos_iff.2 (splitC_ne _ _)) (by exact Nat.le_refl _)), (Sl.Ok.cut (hs.okow (x := x15) (F := F15) Q1) (by rw [hx15]; exact List.length_pos_iff.2 (splitC_ne _ _)) (by exact Nat.le_refl _)), (show WfS [] from Nat.zero_le _)⟩ (by rw [hpl9]; have := polS_size (s := s) (by rw [← show x2.l = splitC 59 s from hx2]; omega); omega)) ?_
     clear hs; intro w hs
     refine Qm ?_
     refine WL.p Q0 (Yl.nes Q0 Q0) ?_
     refine WL.next ?_
     refine WC.condS Q0 (fun h4 => ?_) (fun h4 => ?_)
     ·
      replace h4 := not_eq_true h4
      replace h4 := of_decide_eq_false h4
      refine WC.seq ?_
      refine WL.p Q0 (Yl.build bt26 Q0 Q4) ?_
      refine WL.s (Yr.storeB hs Q0 Q0 Q0 Q5 Q3 Q0 (by exact szf26)) ?_
      clear hs; rintro _ w hs
      refine Qa ?_
      refine WL.next ?_
      refine WC.ret ?_
      refine At.thenret ?_
      refine fin2c rfl agg26 Q0 Q0 hs Q1 Q0 ?_
      refine Ret.mk hs ?_
      rw [hpl9] at h4
      have hb9 : policyIs s = false := policyIs_bad h1 h4
      exact ⟨⟨false, ⟨[], none, 0⟩, ⟨[], none, 0⟩, ⟨[], none, 0⟩, []⟩, by rw [hb9]; rfl, (policyOf_no (.inr hb9)).symm, ⟨⟨[], PPolicy.zown _, .nil, fun b h => by cases h⟩⟩⟩
     ·
      replace h4 := not_eq_false h4
      replace h4 := of_decide_eq_true h4
      refine WC.skipn ?_
      refine WC.seq ?_
      refine WL.p Q0 (Yl.loadAB agg26 Q0 hs Q1 Q0 Q0) ?_
      refine WL.s (Yr.storeB hs Q0 Q0 Q0 Q5 Q3 Q0 (by exact szf26)) ?_
      clear hs; rintro _ w hs
      refine Qa ?_
      refine WL.next ?_
      refine WC.ret ?_
      refine fin2c rfl agg26 Q0 Q0 hs Q1 Q0 ?_
      refine Ret.mk hs ?_
      rw [hpl9] at h4
      have hq9 : x2.l = splitC 59 s := hx2
      have h49 : 3 ≤ (splitC 59 s).length := by rw [← hq9]; omega
      have hb9 : policyIs s = true := policyIs_good h4 h49
      obtain ⟨G90, hs⟩ := Sat.cutow (lo := 1) (hi := x13.l.length) (hs.sel (D := [ow x13 F13]) Q2) (by rw [hx13]; exact List.length_pos_iff.2 (splitC_ne _ _)) (Nat.le_refl _)
      obtain ⟨G91, hs⟩ := Sat.cutow (lo := 1) (hi := x14.l.length) (hs.sel (D := [ow x14 F14]) Q2) (by rw [hx14]; exact List.length_pos_iff.2 (splitC_ne _ _)) (Nat.le_refl _)
      obtain ⟨G92, hs⟩ := Sat.cutow (lo := 1) (hi := x15.l.length) (hs.sel (D := [ow x15 F15]) Q2) (by rw [hx15]; exact List.length_pos_iff.2 (splitC_ne _ _)) (Nat.le_refl _)
      refine ⟨(⟨true, (x13.cut 1 x13.l.length), (x14.cut 1 x14.l.length), (x15.cut 1 x15.l.length), ([] : Str)⟩ : PPolicy), by rw [hb9]; rfl, hpl9.trans (policyOf_good h1 hb9).symm, ?_⟩
      exact (PPolicy.join _ (hs.only (D := [ow (x13.cut 1 x13.l.length) G90, ow (x14.cut 1 x14.l.length) G91, ow (x15.cut 1 x15.l.length) G92]) Q2) trivial (by show WfS _; unfold WfS; first | (simp only [List.length_take, List.length_drop]; omega) | simp)).fresh List.mem_cons_self

theorem c_spec_DrawNarrowPolicy (code : (Sl UInt8)) (w : World) (h_code : Ph.ok w code)  : Calls Tryd.prog 16 [Sl.v code].toArray w (Ret w (fun v w' => ∃ (a : PPolicy) (b : PPolicy), v = .tuple #[.agg (Ph.enc a).toArray, .agg (Ph.enc b).toArray] ∧ (True) ∧ (a.lg.size ≤ 100 ∧ b.lg.size ≤ 100) ∧ Fresh2 w a b w')) := by
 refine enterN 13 Tryd.func16 rfl rfl rfl ?_
 have hs := Sat.start w
 refine WC.seq ?_
 refine WL.r Q0 (Yr.alloc hs zt26) ?_
 clear hs; rintro _ w ⟨b1, rfl, hb, hs⟩; clear hb
 refine WL.r Q0 (Yr.alloc hs zt26) ?_
 clear hs; rintro _ w ⟨b2, rfl, hb, hs⟩; clear hb
 refine WL.next ?_
 refine WC.seq ?_
 refine Qm ?_
 refine WL.calln hs Q0 (Yc.func Q0 fn59) (c_spec_l1New _ _ (Ph.old h_code hs)) ?_
 clear hs; intro c3 w hs
 refine Qa ?_
 refine WL.next ?_
 refine WC.seq ?_
 refine Qm ?_
 refine WL.calld hs (T := 137) (b := code) (c := c3) Q2 Q0 (Yc.func Q0 fn63) (c_spec_l9Any c3 code _ (hs.cur Q1) (Apart.new (by first | assumption) hs Q1)) ?_
 clear hs; intro v w ho hR hs
 obtain ⟨x4, rfl, _, hx4, hf4⟩ := hR
 obtain ⟨F4, hs⟩ := hs.addF ho hf4
 clear ho hf4
 refine WL.r Q0 (Yr.alloc hs zt26) ?_
 clear hs; rintro _ w ⟨b5, rfl, hb, hs⟩; clear hb
 refine WL.s (Yr.storeB hs Q0 Q0 Q0 Q5 Q3 Q0 (by exact szf26)) ?_
 clear hs; rintro _ w hs
 refine WL.next ?_
 refine WC.anynX (K := [box b1 _ _, box b2 _ _]) mixed hs Q2 ?_
 clear hs; intro w hs
 refine WA.p (i := 0) Q0 Q6 Q6 Q6 Q0 (hs.only Q2) (fun w hs => Yl.loadAB agg26 Q0 hs Q1 Q0 Q0) ?_
 refine WA.p (i := 1) Q0 Q6 Q6 Q6 Q0 (hs.only Q2) (fun w hs => Yl.move Q0) ?_
 refine WA.calld (i := 2) hs (T := 137) (b := code) (c := c3) Q2 (fun _ hs => hs.only Q2) Q6 Q0 Q0 (Yc.func Q0 fn63) (c_spec_l9Any c3 code _ (hs.cur Q1) (Apart.new (by first | assumption) hs Q1)) ?_
 clear hs; intro v w ho hR hs
 obtain ⟨x6, rfl, _, hx6, hf6⟩ := hR
 obtain ⟨F6, hs⟩ := hs.addF ho hf6
 clear ho hf6
 refine WA.s (i := 3) Q6 Q0 (Yr.storeB hs Q0 Q0 Q0 Q5 Q3 Q0 (by exact szf26)) (by rintro _ w hs; exact hs.only Q2) ?_
 clear hs; rintro _ w hs
 refine WA.s (i := 4) Q6 Q0 (Yr.storeB hs Q0 Q0 Q0 Q5 Q3 Q0 (by exact szf26)) (by rintro _ w hs; exact hs.only Q2) ?_
 clear hs; rintro _ w hs
 refine WA.donen Q6 ?_
 refine WC.ret ?_
 refine fin2cc rfl agg26 agg26 Q0 Q0 hs Q1 Q1 Q0 Q0 ?_
 refine Ret.mk hs ?_
 refine ⟨x4, x6, rfl, trivial, ?_, ?_⟩
 ·
  repeat' apply And.intro
  all_goals (try dsimp only)
  all_goals first | trivial | assumption | omega | ((try simp only [List.length_append, List.length_cons, List.length_nil, lsz_app, lsz_one, lsz_cons, lsz_nil, TAddr.size, TResponse.size, TRequest.size, TPolicy.size, TEntry.size, TCache.size, strsz, TServer.size, TFile.size, List.map_append, List.map_cons, List.map_nil, PServer.lg, PPolicy.lg, PCache.lg] at *); first | omega | assumption)
 ·
  exact hs.fresh2 (x := x4) (F := F4) (y := x6) (G := F6) Q2

theorem c_slices_Index___string_string_ (s : (Sl Str)) (v : Str) (w : World) (h_s : Ph.ok w s)  : Calls Tryd.prog 115 [Sl.v s, S v].toArray w (RetP w (I (idxF (fun x => decide (v = x)) s.l 0))) := by
 have hw := h_s.lt
 refine enterN 19 Tryd.func115 rfl rfl rfl ?_
 have hs := Sat.start w
 refine WC.seq ?_
 refine Qa ?_
 refine WL.next ?_
 refine WC.seq' ?_
 refine WC.seq ?_
 refine Qm ?_
 refine WL.p Q0 (Yl.len_sl slu24 Q0) ?_
 refine Qm ?_
 refine WL.next ?_
 refine WC.block ?_
 refine WC.loopC (ι := Nat) (fun k => s.l.length - k) (fun k => [(8, I (k : Int))]) (fun _ => []) (fun k => idxF (fun x => decide (v = x)) s.l 0 = idxF (fun x => decide (v = x)) (s.l.drop k) k) [(0, _), (1, _), (7, _)] 0 (hs) ⟨by rfl, by rfl, by rfl, trivial⟩ ⟨by rfl, trivial⟩ ?_ ?_
 ·
  simp
 clear hs; rintro k w hJ hs
 simp only [List.nil_append] at hs
 refine WC.seq ?_
 refine WL.p Q0 (Yl.lss Q0 Q0) ?_
 refine WL.next ?_
 refine WC.seq' ?_
 refine WC.condS Q0 (fun h1 => ?_) (fun h1 => ?_)
 ·
  replace h1 := of_decide_eq_true h1
  obtain ⟨d, hd⟩ := exists_get (l := s.l) (k := k) Q7
  rw [drop_cons hd] at hJ
  refine WC.skipn ?_
  refine WC.seq' ?_
  refine WC.block ?_
  refine WC.seq ?_
  refine Qm ?_
  refine Qa ?_
  refine WL.next ?_
  refine WC.seq ?_
  refine Qm ?_
  refine Qm ?_
  refine Qm ?_
  refine WL.p Q0 (Yl.indexAddr slt24 Q0 Q0 (Ph.old h_s hs) Q0 (hd)) ?_
  refine WL.p Q0 (Yl.loadC0 sca9 Q0 (Sl.Ok.at_ (Ph.old h_s hs) (by assumption)).2 Q0) ?_
  refine WL.p Q0 (Yl.eqs Q0 Q0) ?_
  refine WL.next ?_
  refine WC.condS Q0 (fun h2 => ?_) (fun h2 => ?_)
  ·
   replace h2 := of_decide_eq_true h2
   refine WC.seq ?_
   refine Qm ?_
   refine Qa ?_
   refine WL.next ?_
   refine WC.ret ?_
   refine At.blockret ?_
   refine At.thenret ?_
   refine At.thenret ?_
   refine At.blockret ?_
   refine At.thenret ?_
   refine fin1' rfl Q0 ?_
   refine RetP.mk hs ?_
   rw [hJ]; simp_all [idxF]
  ·
   replace h2 := of_decide_eq_false h2
   refine WC.skip ?_
   refine At.blocknormal ?_
   refine At.then_ ?_
   refine WC.region ?_
   refine WL.p Q0 (Yl.add Q0 Q0 Q7) ?_
   refine Qm ?_
   refine WL.nil ?_
   refine At.roundC (k + 1) (hs.only Q2) ⟨by rfl, by rfl, by rfl, trivial⟩ ⟨by rfl, trivial⟩ ?_ ?_
   ·
    omega
   ·
    rw [hJ]; simp_all [idxF]
 ·
  replace h1 := of_decide_eq_false h1
  rw [drop_out (l := s.l) Q7] at hJ
  refine WC.exit ?_
  refine At.thenexit ?_
  refine At.thenexit ?_
  refine At.blockexit ?_
  refine At.then_ ?_
  refine WC.seq ?_
  refine Qa ?_
  refine WL.next ?_
  refine WC.ret ?_
  refine fin1' rfl Q0 ?_
  refine RetP.mk hs ?_
  rw [hJ]; simp_all [idxF]

theorem c_slices_Contains___string_string_ (s : (Sl Str)) (v : Str) (w : World) (h_s : Ph.ok w s)  : Calls Tryd.prog 66 [Sl.v s, S v].toArray w (RetP w (Bo (decide (v ∈ s.l)))) := by
 refine enterN 9 Tryd.func66 rfl rfl rfl ?_
 have hs := Sat.start w
 refine WC.seq ?_
 refine Qa ?_
 refine WL.next ?_
 refine WC.seq ?_
 refine Qm ?_
 refine Qm ?_
 refine WL.callp hs Q0 (Yc.func Q0 fn115) (c_slices_Index___string_string_ _ _ _ (Ph.old h_s hs)) ?_
 clear hs; intro w hs
 refine WL.p Q0 (Yl.geq Q0 Q0) ?_
 refine Qa ?_
 refine WL.next ?_
 refine WC.ret ?_
 refine fin1' rfl Q0 ?_
 refine RetP.mk hs ?_
 simp only [ge_iff_le, idxF_any, any_mem]

theorem c_impl_inBoth (a : (Sl Str)) (b : (Sl Str)) (w : World) (h_a : Ph.ok w a) (h_b : Ph.ok w b) (hb : a.l.length ≤ 1048576) : Calls Tryd.prog 65 [Sl.v a, Sl.v b].toArray w (Ret w (fun v w' => ∃ x : Sl Str, v = x.v ∧ x.l = inBoth a.l b.l ∧ Fresh w x w')) := by
 have hw := h_a.lt
 refine enterN 24 Tryd.func65 rfl rfl rfl ?_
 have hs := Sat.start w
 refine WC.seq ?_
 refine Qa ?_
 refine WL.next ?_
 refine WC.seq ?_
 refine WL.r Q0 (Yr.buildSlice hs sll24 Q0 Q0 Q0 Q4 Q0) ?_
 clear hs; rintro _ w ⟨b1, rfl, hb, hs⟩; clear hb
 refine Qa ?_
 refine WL.next ?_
 refine WC.seq' ?_
 refine WC.seq ?_
 refine Qm ?_
 refine WL.p Q0 (Yl.len_sl slu24 Q0) ?_
 refine Qm ?_
 refine WL.next ?_
 refine WC.block ?_
 replace hs := Sat.boxow (l := ([] : List Str)) hs rfl rfl (by simp) (ownL_mk_flat (by simp))
 refine WC.loopC (ι := Nat × Sl Str × List Nat) (fun ⟨k, s, F⟩ => a.l.length - k) (fun ⟨k, s, F⟩ => [(11, I (k : Int)), (5, s.v)]) (fun ⟨k, s, F⟩ => [ow s F]) (fun ⟨k, s, F⟩ => k ≤ a.l.length ∧ s.l = inBoth (a.l.take k) b.l) [(0, _), (1, _), (4, _), (9, _), (10, _)] (0, ⟨[], some ⟨b1, 0, none⟩, 0⟩, [b1]) (hs.sel (D := [ow (⟨[], some ⟨b1, 0, none⟩, 0⟩ : Sl Str) [b1]]) Q2) ⟨by rfl, by rfl, by rfl, by rfl, by rfl, trivial⟩ ⟨by rfl, by rfl, trivial⟩ ?_ ?_
 ·
  exact ⟨Nat.zero_le _, rfl⟩
 clear hs; rintro ⟨k, s, F⟩ w ⟨hJ1, hJ2⟩ hs
 simp only [List.cons_append, List.nil_append] at hs
 refine WC.seq ?_
 refine WL.p Q0 (Yl.lss Q0 Q0) ?_
 refine WL.next ?_
 refine WC.seq' ?_
 refine WC.condS Q0 (fun h1 => ?_) (fun h1 => ?_)
 ·
  replace h1 := of_decide_eq_true h1
  obtain ⟨d, hd⟩ := exists_get (l := a.l) (k := k) Q7
  refine WC.skipn ?_
  refine WC.seq' ?_
  refine WC.block ?_
  refine WC.seq ?_
  refine WL.p Q0 (Yl.indexAddr slt24 Q0 Q0 (Ph.old h_a hs) Q0 (hd)) ?_
  refine WL.p Q0 (Yl.loadC0 sca9 Q0 (Sl.Ok.at_ (Ph.old h_a hs) (by assumption)).2 Q0) ?_
  refine Qa ?_
  refine WL.next ?_
  refine WC.seq ?_
  refine Qm ?_
  refine Qm ?_
  refine WL.callp hs Q0 (Yc.func Q0 fn66) (c_slices_Contains___string_string_ _ _ _ (Ph.old h_b hs)) ?_
  clear hs; intro w hs
  refine WL.next ?_
  refine WC.condS Q0 (fun h2 => ?_) (fun h2 => ?_)
  ·
   replace h2 := of_decide_eq_true h2
   refine WC.region ?_
   refine Qm ?_
   refine Qm ?_
   refine WL.r Q0 (Yr.buildSlice hs sll24 Q0 Q0 Q0 Q4 Q0) ?_
   clear hs; rintro _ w ⟨b2, rfl, hb, hs⟩; clear hb
   refine WL.r Q0 (Yr.append (s := s) (F := F) hs elt24 Q2 Q0 Q0 rfl (xs := [d]) (hs.box_cells Q1) (by intro x hx; obtain rfl := List.mem_singleton.1 hx; exact Sl.Ok.elem h_a hd) (by have := inBoth_len (a := a.l.take k) (b := b.l); rw [hJ2]; simp at this; simp; unfold maxLen; omega) (by have := inBoth_len (a := a.l.take k) (b := b.l); rw [hJ2]; simp at this; simp; omega)) ?_
   clear hs; rintro _ w ⟨s3, F3, rfl, hl3, hs⟩
   refine Qa ?_
   refine WL.nil ?_
   refine At.blocknormal ?_
   refine At.then_ ?_
   refine WC.region ?_
   refine WL.p Q0 (Yl.add Q0 Q0 Q7) ?_
   refine Qm ?_
   refine WL.nil ?_
   refine At.roundC (k + 1, s3, F3) (hs.only Q2) ⟨by rfl, by rfl, by rfl, by rfl, by rfl, trivial⟩ ⟨by rfl, by rfl, trivial⟩ ?_ ?_
   ·
    show a.l.length - (k + 1) < a.l.length - k
    omega
   ·
    exact ⟨by omega, by rw [hl3, hJ2]; exact inBoth_yes hd h2⟩
  ·
   replace h2 := of_decide_eq_false h2
   refine WC.skip ?_
   refine At.blocknormal ?_
   refine At.then_ ?_
   refine WC.region ?_
   refine WL.p Q0 (Yl.add Q0 Q0 Q7) ?_
   refine Qm ?_
   refine WL.nil ?_
   refine At.roundC (k + 1, s, F) (hs.only Q2) ⟨by rfl, by rfl, by rfl, by rfl, by rfl, trivial⟩ ⟨by rfl, by rfl, trivial⟩ ?_ ?_
   ·
    show a.l.length - (k + 1) < a.l.length - k
    omega
   ·
    exact ⟨by omega, by rw [hJ2]; exact inBoth_no hd h2⟩
 ·
  replace h1 := of_decide_eq_false h1
  refine WC.exit ?_
  refine At.thenexit ?_
  refine At.thenexit ?_
  refine At.blockexit ?_
  refine At.then_ ?_
  refine WC.seq ?_
  refine Qm ?_
  refine Qa ?_
  refine WL.next ?_
  refine WC.ret ?_
  refine fin1' rfl Q0 ?_
  refine Ret.mk hs ?_
  exact ⟨s, rfl, by rw [hJ2, show k = a.l.length from by omega]; simp, hs.fresh Q1⟩

theorem c_impl_NarrowPolicy (a : PPolicy) (b : PPolicy) (w : World) (h_a : Ph.ok w a) (h_b : Ph.ok w b) (hb1 : a.lg.size ≤ 1048576) (hb2 : b.lg.size ≤ 1048576) : Calls Tryd.prog 17 [.agg #[Bo a.set, Sl.v a.scripts, Sl.v a.styles, Sl.v a.images, S a.nonce], .agg #[Bo b.set, Sl.v b.scripts, Sl.v b.styles, Sl.v b.images, S b.nonce]].toArray w (Ret w (fun v w' => ∃ x : PPolicy, v = .agg (Ph.enc x).toArray ∧ x.lg = narrow a.lg b.lg ∧ Fresh w x w')) := by
 refine enterN 43 Tryd.func17 rfl rfl rfl ?_
 have hs := Sat.start w
 refine WC.seq ?_
 refine WL.r Q0 (Yr.box hs Q0 Q0) ?_
 clear hs; rintro _ w ⟨b1, rfl, hb, hs⟩; clear hb
 refine WL.r Q0 (Yr.box hs Q0 Q0) ?_
 clear hs; rintro _ w ⟨b2, rfl, hb, hs⟩; clear hb
 refine WL.r Q0 (Yr.alloc hs zt26) ?_
 clear hs; rintro _ w ⟨b3, rfl, hb, hs⟩; clear hb
 refine WL.next ?_
 refine WC.seq' ?_
 refine WC.block ?_
 refine WC.seq ?_
 refine WL.p Q0 (Yl.fieldAddr fa26_0 Q0) ?_
 refine WL.p Q0 (Yl.loadB sca4 Q0 hs Q1 Q0) ?_
 refine WL.p Q0 (Yl.not Q0) ?_
 refine Qa ?_
 refine WL.next ?_
 refine WC.condS Q0 (fun h1 => ?_) (fun h1 => ?_)
 ·
  replace h1 := not_eq_true h1
  refine WC.seq ?_
  refine WL.p Q0 (Yl.loadAB agg26 Q0 hs Q1 Q0 Q0) ?_
  refine WL.call hs Q0 (Yc.func Q0 fn52) (c_impl_copyPolicy _ _ (Ph.old h_b hs) Q10) ?_
  have hs0 := hs; clear hs; intro v w hb hR hs; clear hs
  obtain ⟨x4, rfl, hx4, hf4⟩ := hR
  obtain ⟨F4, hs⟩ := hf4.sat hs0 hb; clear hs0 hf4
  refine WL.s (Yr.storeB hs Q0 Q0 Q0 Q5 Q3 Q0 (by exact szf26)) ?_
  clear hs; rintro _ w hs
  refine WL.next ?_
  refine WC.ret ?_
  refine At.blockret ?_
  refine At.thenret ?_
  refine fin1c rfl agg26 Q0 hs Q1 Q0 ?_
  refine Ret.mk hs ?_
  exact ⟨x4, rfl, by simp_all [narrow], hs.fresh Q1⟩
 ·
  replace h1 := not_eq_false h1
  refine WC.seq ?_
  refine WL.p Q0 (Yl.fieldAddr fa26_0 Q0) ?_
  refine WL.p Q0 (Yl.loadB sca4 Q0 hs Q1 Q0) ?_
  refine WL.p Q0 (Yl.not Q0) ?_
  refine Qa ?_
  refine WL.next ?_
  refine WC.condS Q0 (fun h2 => ?_) (fun h2 => ?_)
  ·
   replace h2 := not_eq_true h2
   refine WC.seq ?_
   refine WL.p Q0 (Yl.loadAB agg26 Q0 hs Q1 Q0 Q0) ?_
   refine WL.call hs Q0 (Yc.func Q0 fn52) (c_impl_copyPolicy _ _ (Ph.old h_a hs) Q10) ?_
   have hs0 := hs; clear hs; intro v w hb hR hs; clear hs
   obtain ⟨x5, rfl, hx5, hf5⟩ := hR
   obtain ⟨F5, hs⟩ := hf5.sat hs0 hb; clear hs0 hf5
   refine WL.s (Yr.storeB hs Q0 Q0 Q0 Q5 Q3 Q0 (by exact szf26)) ?_
   clear hs; rintro _ w hs
   refine WL.next ?_
   refine WC.ret ?_
   refine At.blockret ?_
   refine At.thenret ?_
   refine fin1c rfl agg26 Q0 hs Q1 Q0 ?_
   refine Ret.mk hs ?_
   exact ⟨x5, rfl, by simp_all [narrow], hs.fresh Q1⟩
  ·
   replace h2 := not_eq_false h2
   refine WC.skip ?_
   refine At.blocknormal ?_
   refine At.then_ ?_
   refine WC.anyn mixed hs ?_
   clear hs; intro w hs
   refine WA.p (i := 0) Q0 Q6 Q6 Q6 Q0 (hs.only Q2) (fun w hs => Yl.fieldAddr fa26_1 Q0) ?_
   refine WA.p (i := 1) Q0 Q6 Q6 Q6 Q0 (hs.only Q2) (fun w hs => Yl.loadB sca24 Q0 hs Q1 Q0) ?_
   refine WA.p (i := 2) Q0 Q6 Q6 Q6 Q0 (hs.only Q2) (fun w hs => Yl.fieldAddr fa26_1 Q0) ?_
   refine WA.p (i := 3) Q0 Q6 Q6 Q6 Q0 (hs.only Q2) (fun w hs => Yl.loadB sca24 Q0 hs Q1 Q0) ?_
   refine WA.p (i := 5) Q0 Q6 Q6 Q6 Q0 (hs.only Q2) (fun w hs => Yl.fieldAddr fa26_2 Q0) ?_
   refine WA.p (i := 6) Q0 Q6 Q6 Q6 Q0 (hs.only Q2) (fun w hs => Yl.loadB sca24 Q0 hs Q1 Q0) ?_
   refine WA.p (i := 7) Q0 Q6 Q6 Q6 Q0 (hs.only Q2) (fun w hs => Yl.fieldAddr fa26_2 Q0) ?_
   refine WA.p (i := 8) Q0 Q6 Q6 Q6 Q0 (hs.only Q2) (fun w hs => Yl.loadB sca24 Q0 hs Q1 Q0) ?_
   refine WA.p (i := 10) Q0 Q6 Q6 Q6 Q0 (hs.only Q2) (fun w hs => Yl.fieldAddr fa26_3 Q0) ?_
   refine WA.p (i := 11) Q0 Q6 Q6 Q6 Q0 (hs.only Q2) (fun w hs => Yl.loadB sca24 Q0 hs Q1 Q0) ?_
   refine WA.p (i := 12) Q0 Q6 Q6 Q6 Q0 (hs.only Q2) (fun w hs => Yl.fieldAddr fa26_3 Q0) ?_
   refine WA.p (i := 13) Q0 Q6 Q6 Q6 Q0 (hs.only Q2) (fun w hs => Yl.loadB sca24 Q0 hs Q1 Q0) ?_
   refine WA.two (i := 4) (j := 16) Q6 ?_ ?_
   ·
    refine WI.call2 (i := 4) hs (fun _ hs => hs.only Q2) Q0 Q0 (Yc.func Q0 fn65) (c_impl_inBoth _ _ _ (Ph.old h_a.scripts hs) (Ph.old h_b.scripts hs) Q10) ?_
    have hs0 := hs; clear hs; intro v w hb hR hs; clear hs
    obtain ⟨x6, rfl, hx6, hf6⟩ := hR
    obtain ⟨F6, hs⟩ := hf6.sat hs0 hb; clear hs0 hf6
    have hle6 := Sl.Ok.le (hs.okow (x := x6) (F := F6) Q1)
    refine WA.two (i := 9) (j := 16) Q6 ?_ ?_
    ·
     refine WI.call2 (i := 9) hs (fun _ hs => hs.only Q2) Q0 Q0 (Yc.func Q0 fn65) (c_impl_inBoth _ _ _ (Ph.old h_a.styles hs) (Ph.old h_b.styles hs) Q10) ?_
     have hs0 := hs; clear hs; intro v w hb hR hs; clear hs
     obtain ⟨x7, rfl, hx7, hf7⟩ := hR
     obtain ⟨F7, hs⟩ := hf7.sat hs0 hb; clear hs0 hf7
     have hle7 := Sl.Ok.le (hs.okow (x := x7) (F := F7) Q1)
     refine WA.two (i := 14) (j := 16) Q6 ?_ ?_
     ·
      refine WI.call2 (i := 14) hs (fun _ hs => hs.only Q2) Q0 Q0 (Yc.func Q0 fn65) (c_impl_inBoth _ _ _ (Ph.old h_a.images hs) (Ph.old h_b.images hs) Q10) ?_
      have hs0 := hs; clear hs; intro v w hb hR hs; clear hs
      obtain ⟨x8, rfl, hx8, hf8⟩ := hR
      obtain ⟨F8, hs⟩ := hf8.sat hs0 hb; clear hs0 hf8
      have hle8 := Sl.Ok.le (hs.okow (x := x8) (F := F8) Q1)
      refine WA.p (i := 15) Q0 Q6 Q6 Q6 Q0 (hs.only Q2) (fun w hs => Yl.build bt26 Q0 Q4) ?_
      refine WA.r (i := 16) Q6 Q0 Q0 (Yr.alloc hs zt26) (by rintro _ w ⟨b9, rfl, hb, hs⟩; exact hs.only Q2) ?_
      clear hs; rintro _ w ⟨b9, rfl, hb, hs⟩; clear hb
      refine WA.s (i := 17) Q6 Q0 (Yr.storeB hs Q0 Q0 Q0 Q5 Q3 Q0 (by exact szf26)) (by rintro _ w hs; exact hs.only Q2) ?_
      clear hs; rintro _ w hs
      refine WA.donen Q6 ?_
      refine WC.seq' ?_
      refine WC.seq ?_
      refine WL.p Q0 (Yl.fieldAddr fa26_4 Q0) ?_
      refine WL.p Q0 (Yl.loadB sca9 Q0 hs Q1 Q0) ?_
      refine WL.p Q0 (Yl.fieldAddr fa26_4 Q0) ?_
      refine WL.p Q0 (Yl.loadB sca9 Q0 hs Q1 Q0) ?_
      refine WL.p Q0 (Yl.eqs Q0 Q0) ?_
      refine WL.next ?_
      refine WC.condS Q0 (fun h3 => ?_) (fun h3 => ?_)
      ·
       replace h3 := of_decide_eq_true h3
       refine WC.region ?_
       refine WL.p Q0 (Yl.fieldAddr fa26_4 Q0) ?_
       refine WL.p Q0 (Yl.loadB sca9 Q0 hs Q1 Q0) ?_
       refine WL.p Q0 (Yl.fieldAddr fa26_4 Q0) ?_
       refine WL.s (Yr.storeB hs Q0 Q0 Q0 Q5 Q3 Q0 (by exact szf9)) ?_
       clear hs; rintro _ w hs
       refine WL.nil ?_
       refine At.then_ ?_
       refine WC.seq ?_
       refine WL.p Q0 (Yl.loadAB agg26 Q0 hs Q1 Q0 Q0) ?_
       refine WL.s (Yr.storeB hs Q0 Q0 Q0 Q5 Q3 Q0 (by exact szf26)) ?_
       clear hs; rintro _ w hs
       refine WL.next ?_
       refine WC.ret ?_
       refine fin1c rfl agg26 Q0 hs Q1 Q0 ?_
       refine Ret.mk hs ?_
       refine ⟨⟨_, x6, x7, x8, _⟩, rfl, ?_, ?_⟩
       · simp_all [narrow]
       · exact (PPolicy.join _ (hs.only (D := [ow x6 F6, ow x7 F7, ow x8 F8]) Q2) (by first | exact Ph.old h_a.set hs | trivial | assumption | exact Nat.zero_le _) (by first | exact Ph.old h_a.nonce hs | trivial | assumption | exact Nat.zero_le _)).fresh List.mem_cons_self
      ·
       replace h3 := of_decide_eq_false h3
       refine WC.skipn ?_
       refine WC.seq ?_
       refine WL.p Q0 (Yl.loadAB agg26 Q0 hs Q1 Q0 Q0) ?_
       refine WL.s (Yr.storeB hs Q0 Q0 Q0 Q5 Q3 Q0 (by exact szf26)) ?_
       clear hs; rintro _ w hs
       refine WL.next ?_
       refine WC.ret ?_
       refine fin1c rfl agg26 Q0 hs Q1 Q0 ?_
       refine Ret.mk hs ?_
       refine ⟨⟨_, x6, x7, x8, _⟩, rfl, ?_, ?_⟩
       · simp_all [narrow]
       · exact (PPolicy.join _ (hs.only (D := [ow x6 F6, ow x7 F7, ow x8 F8]) Q2) (by first | exact Ph.old h_a.set hs | trivial | assumption | exact Nat.zero_le _) (by first | exact Ph.old h_a.nonce hs | trivial | assumption | exact Nat.zero_le _)).fresh List.mem_cons_self
     ·
      refine WI.r (i := 16) Q0 Q0 (Yr.alloc hs zt26) (by rintro _ w ⟨b10, rfl, hb, hs⟩; exact hs.only Q2) ?_
      clear hs; rintro _ w ⟨b10, rfl, hb, hs⟩; clear hb
      refine WA.call2 (i := 14) hs (fun _ hs => hs.only Q2) Q6 Q0 Q0 (Yc.func Q0 fn65) (c_impl_inBoth _ _ _ (Ph.old h_a.images hs) (Ph.old h_b.images hs) Q10) ?_
      have hs0 := hs; clear hs; intro v w hb hR hs; clear hs
      obtain ⟨x11, rfl, hx11, hf11⟩ := hR
      obtain ⟨F11, hs⟩ := hf11.sat hs0 hb; clear hs0 hf11
      have hle11 := Sl.Ok.le (hs.okow (x := x11) (F := F11) Q1)
      refine WA.p (i := 15) Q0 Q6 Q6 Q6 Q0 (hs.only Q2) (fun w hs => Yl.build bt26 Q0 Q4) ?_
      refine WA.s (i := 17) Q6 Q0 (Yr.storeB hs Q0 Q0 Q0 Q5 Q3 Q0 (by exact szf26)) (by rintro _ w hs; exact hs.only Q2) ?_
      clear hs; rintro _ w hs
      refine WA.donen Q6 ?_
      refine WC.seq' ?_
      refine WC.seq ?_
      refine WL.p Q0 (Yl.fieldAddr fa26_4 Q0) ?_
      refine WL.p Q0 (Yl.loadB sca9 Q0 hs Q1 Q0) ?_
      refine WL.p Q0 (Yl.fieldAddr fa26_4 Q0) ?_
      refine WL.p Q0 (Yl.loadB sca9 Q0 hs Q1 Q0) ?_
      refine WL.p Q0 (Yl.eqs Q0 Q0) ?_
      refine WL.next ?_
      refine WC.condS Q0 (fun h3 => ?_) (fun h3 => ?_)
      ·
       replace h3 := of_decide_eq_true h3
       refine WC.region ?_
       refine WL.p Q0 (Yl.fieldAddr fa26_4 Q0) ?_
       refine WL.p Q0 (Yl.loadB sca9 Q0 hs Q1 Q0) ?_
       refine WL.p Q0 (Yl.fieldAddr fa26_4 Q0) ?_
       refine WL.s (Yr.storeB hs Q0 Q0 Q0 Q5 Q3 Q0 (by exact szf9)) ?_
       clear hs; rintro _ w hs
       refine WL.nil ?_
       refine At.then_ ?_
       refine WC.seq ?_
       refine WL.p Q0 (Yl.loadAB agg26 Q0 hs Q1 Q0 Q0) ?_
       refine WL.s (Yr.storeB hs Q0 Q0 Q0 Q5 Q3 Q0 (by exact szf26)) ?_
       clear hs; rintro _ w hs
       refine WL.next ?_
       refine WC.ret ?_
       refine fin1c rfl agg26 Q0 hs Q1 Q0 ?_
       refine Ret.mk hs ?_
       refine ⟨⟨_, x6, x7, x11, _⟩, rfl, ?_, ?_⟩
       · simp_all [narrow]
       · exact (PPolicy.join _ (hs.only (D := [ow x6 F6, ow x7 F7, ow x11 F11]) Q2) (by first | exact Ph.old h_a.set hs | trivial | assumption | exact Nat.zero_le _) (by first | exact Ph.old h_a.nonce hs | trivial | assumption | exact Nat.zero_le _)).fresh List.mem_cons_self
      ·
       replace h3 := of_decide_eq_false h3
       refine WC.skipn ?_
       refine WC.seq ?_
       refine WL.p Q0 (Yl.loadAB agg26 Q0 hs Q1 Q0 Q0) ?_
       refine WL.s (Yr.storeB hs Q0 Q0 Q0 Q5 Q3 Q0 (by exact szf26)) ?_
       clear hs; rintro _ w hs
       refine WL.next ?_
       refine WC.ret ?_
       refine fin1c rfl agg26 Q0 hs Q1 Q0 ?_
       refine Ret.mk hs ?_
       refine ⟨⟨_, x6, x7, x11, _⟩, rfl, ?_, ?_⟩
       · simp_all [narrow]
       · exact (PPolicy.join _ (hs.only (D := [ow x6 F6, ow x7 F7, ow x11 F11]) Q2) (by first | exact Ph.old h_a.set hs | trivial | assumption | exact Nat.zero_le _) (by first | exact Ph.old h_a.nonce hs | trivial | assumption | exact Nat.zero_le _)).fresh List.mem_cons_self
    ·
     refine WI.r (i := 16) Q0 Q0 (Yr.alloc hs zt26) (by rintro _ w ⟨b12, rfl, hb, hs⟩; exact hs.only Q2) ?_
     clear hs; rintro _ w ⟨b12, rfl, hb, hs⟩; clear hb
     refine WA.call2 (i := 9) hs (fun _ hs => hs.only Q2) Q6 Q0 Q0 (Yc.func Q0 fn65) (c_impl_inBoth _ _ _ (Ph.old h_a.styles hs) (Ph.old h_b.styles hs) Q10) ?_
     have hs0 := hs; clear hs; intro v w hb hR hs; clear hs
     obtain ⟨x13, rfl, hx13, hf13⟩ := hR
     obtain ⟨F13, hs⟩ := hf13.sat hs0 hb; clear hs0 hf13
     have hle13 := Sl.Ok.le (hs.okow (x := x13) (F := F13) Q1)
     refine WA.call2 (i := 14) hs (fun _ hs => hs.only Q2) Q6 Q0 Q0 (Yc.func Q0 fn65) (c_impl_inBoth _ _ _ (Ph.old h_a.images hs) (Ph.old h_b.images hs) Q10) ?_
     have hs0 := hs; clear hs; intro v w hb hR hs; clear hs
     obtain ⟨x14, rfl, hx14, hf14⟩ := hR
     obtain ⟨F14, hs⟩ := hf14.sat hs0 hb; clear hs0 hf14
     have hle14 := Sl.Ok.le (hs.okow (x := x14) (F := F14) Q1)
     refine WA.p (i := 15) Q0 Q6 Q6 Q6 Q0 (hs.only Q2) (fun w hs => Yl.build bt26 Q0 Q4) ?_
     refine WA.s (i := 17) Q6 Q0 (Yr.storeB hs Q0 Q0 Q0 Q5 Q3 Q0 (by exact szf26)) (by rintro _ w hs; exact hs.only Q2) ?_
     clear hs; rintro _ w hs
     refine WA.donen Q6 ?_
     refine WC.seq' ?_
     refine WC.seq ?_
     refine WL.p Q0 (Yl.fieldAddr fa26_4 Q0) ?_
     refine WL.p Q0 (Yl.loadB sca9 Q0 hs Q1 Q0) ?_
     refine WL.p Q0 (Yl.fieldAddr fa26_4 Q0) ?_
     refine WL.p Q0 (Yl.loadB sca9 Q0 hs Q1 Q0) ?_
     refine WL.p Q0 (Yl.eqs Q0 Q0) ?_
     refine WL.next ?_
     refine WC.condS Q0 (fun h3 => ?_) (fun h3 => ?_)
     ·
      replace h3 := of_decide_eq_true h3
      refine WC.region ?_
      refine WL.p Q0 (Yl.fieldAddr fa26_4 Q0) ?_
      refine WL.p Q0 (Yl.loadB sca9 Q0 hs Q1 Q0) ?_
      refine WL.p Q0 (Yl.fieldAddr fa26_4 Q0) ?_
      refine WL.s (Yr.storeB hs Q0 Q0 Q0 Q5 Q3 Q0 (by exact szf9)) ?_
      clear hs; rintro _ w hs
      refine WL.nil ?_
      refine At.then_ ?_
      refine WC.seq ?_
      refine WL.p Q0 (Yl.loadAB agg26 Q0 hs Q1 Q0 Q0) ?_
      refine WL.s (Yr.storeB hs Q0 Q0 Q0 Q5 Q3 Q0 (by exact szf26)) ?_
      clear hs; rintro _ w hs
      refine WL.next ?_
      refine WC.ret ?_
      refine fin1c rfl agg26 Q0 hs Q1 Q0 ?_
      refine Ret.mk hs ?_
      refine ⟨⟨_, x6, x13, x14, _⟩, rfl, ?_, ?_⟩
      · simp_all [narrow]
      · exact (PPolicy.join _ (hs.only (D := [ow x6 F6, ow x13 F13, ow x14 F14]) Q2) (by first | exact Ph.old h_a.set hs | trivial | assumption | exact Nat.zero_le _) (by first | exact Ph.old h_a.nonce hs | trivial | assumption | exact Nat.zero_le _)).fresh List.mem_cons_self
     ·
      replace h3 := of_decide_eq_false h3
      refine WC.skipn ?_
      refine WC.seq ?_
      refine WL.p Q0 (Yl.loadAB agg26 Q0 hs Q1 Q0 Q0) ?_
      refine WL.s (Yr.storeB hs Q0 Q0 Q0 Q5 Q3 Q0 (by exact szf26)) ?_
      clear hs; rintro _ w hs
      refine WL.next ?_
      refine WC.ret ?_
      refine fin1c rfl agg26 Q0 hs Q1 Q0 ?_
      refine Ret.mk hs ?_
      refine ⟨⟨_, x6, x13, x14, _⟩, rfl, ?_, ?_⟩
      · simp_all [narrow]
      · exact (PPolicy.join _ (hs.only (D := [ow x6 F6, ow x13 F13, ow x14 F14]) Q2) (by first | exact Ph.old h_a.set hs | trivial | assumption | exact Nat.zero_le _) (by first | exact Ph.old h_a.nonce hs | trivial | assumption | exact Nat.zero_le _)).fresh List.mem_cons_self
   ·
    refine WI.r (i := 16) Q0 Q0 (Yr.alloc hs zt26) (by rintro _ w ⟨b15, rfl, hb, hs⟩; exact hs.only Q2) ?_
    clear hs; rintro _ w ⟨b15, rfl, hb, hs⟩; clear hb
    refine WA.call2 (i := 4) hs (fun _ hs => hs.only Q2) Q6 Q0 Q0 (Yc.func Q0 fn65) (c_impl_inBoth _ _ _ (Ph.old h_a.scripts hs) (Ph.old h_b.scripts hs) Q10) ?_
    have hs0 := hs; clear hs; intro v w hb hR hs; clear hs
    obtain ⟨x16, rfl, hx16, hf16⟩ := hR
    obtain ⟨F16, hs⟩ := hf16.sat hs0 hb; clear hs0 hf16
    have hle16 := Sl.Ok.le (hs.okow (x := x16) (F := F16) Q1)
    refine WA.call2 (i := 9) hs (fun _ hs => hs.only Q2) Q6 Q0 Q0 (Yc.func Q0 fn65) (c_impl_inBoth _ _ _ (Ph.old h_a.styles hs) (Ph.old h_b.styles hs) Q10) ?_
    have hs0 := hs; clear hs; intro v w hb hR hs; clear hs
    obtain ⟨x17, rfl, hx17, hf17⟩ := hR
    obtain ⟨F17, hs⟩ := hf17.sat hs0 hb; clear hs0 hf17
    have hle17 := Sl.Ok.le (hs.okow (x := x17) (F := F17) Q1)
    refine WA.call2 (i := 14) hs (fun _ hs => hs.only Q2) Q6 Q0 Q0 (Yc.func Q0 fn65) (c_impl_inBoth _ _ _ (Ph.old h_a.images hs) (Ph.old h_b.images hs) Q10) ?_
    have hs0 := hs; clear hs; intro v w hb hR hs; clear hs
    obtain ⟨x18, rfl, hx18, hf18⟩ := hR
    obtain ⟨F18, hs⟩ := hf18.sat hs0 hb; clear hs0 hf18
    have hle18 := Sl.Ok.le (hs.okow (x := x18) (F := F18) Q1)
    refine WA.p (i := 15) Q0 Q6 Q6 Q6 Q0 (hs.only Q2) (fun w hs => Yl.build bt26 Q0 Q4) ?_
    refine WA.s (i := 17) Q6 Q0 (Yr.storeB hs Q0 Q0 Q0 Q5 Q3 Q0 (by exact szf26)) (by rintro _ w hs; exact hs.only Q2) ?_
    clear hs; rintro _ w hs
    refine WA.donen Q6 ?_
    refine WC.seq' ?_
    refine WC.seq ?_
    refine WL.p Q0 (Yl.fieldAddr fa26_4 Q0) ?_
    refine WL.p Q0 (Yl.loadB sca9 Q0 hs Q1 Q0) ?_
    refine WL.p Q0 (Yl.fieldAddr fa26_4 Q0) ?_
    refine WL.p Q0 (Yl.loadB sca9 Q0 hs Q1 Q0) ?_
    refine WL.p Q0 (Yl.eqs Q0 Q0) ?_
    refine WL.next ?_
    refine WC.condS Q0 (fun h3 => ?_) (fun h3 => ?_)
    ·
     replace h3 := of_decide_eq_true h3
     refine WC.region ?_
     refine WL.p Q0 (Yl.fieldAddr fa26_4 Q0) ?_
     refine WL.p Q0 (Yl.loadB sca9 Q0 hs Q1 Q0) ?_
     refine WL.p Q0 (Yl.fieldAddr fa26_4 Q0) ?_
     refine WL.s (Yr.storeB hs Q0 Q0 Q0 Q5 Q3 Q0 (by exact szf9)) ?_
     clear hs; rintro _ w hs
     refine WL.nil ?_
     refine At.then_ ?_
     refine WC.seq ?_
     refine WL.p Q0 (Yl.loadAB agg26 Q0 hs Q1 Q0 Q0) ?_
     refine WL.s (Yr.storeB hs Q0 Q0 Q0 Q5 Q3 Q0 (by exact szf26)) ?_
     clear hs; rintro _ w hs
     refine WL.next ?_
     refine WC.ret ?_
     refine fin1c rfl agg26 Q0 hs Q1 Q0 ?_
     refine Ret.mk hs ?_
     refine ⟨⟨_, x16, x17, x18, _⟩, rfl, ?_, ?_⟩
     · simp_all [narrow]
     · exact (PPolicy.join _ (hs.only (D := [ow x16 F16, ow x17 F17, ow x18 F18]) Q2) (by first | exact Ph.old h_a.set hs | trivial | assumption | exact Nat.zero_le _) (by first | exact Ph.old h_a.nonce hs | trivial | assumption | exact Nat.zero_le _)).fresh List.mem_cons_self
    ·
     replace h3 := of_decide_eq_false h3
     refine WC.skipn ?_
     refine WC.seq ?_
     refine WL.p Q0 (Yl.loadAB agg26 Q0 hs Q1 Q0 Q0) ?_
     refine WL.s (Yr.storeB hs Q0 Q0 Q0 Q5 Q3 Q0 (by exact szf26)) ?_
     clear hs; rintro _ w hs
     refine WL.next ?_
     refine WC.ret ?_
     refine fin1c rfl agg26 Q0 hs Q1 Q0 ?_
     refine Ret.mk hs ?_
     refine ⟨⟨_, x16, x17, x18, _⟩, rfl, ?_, ?_⟩
     · simp_all [narrow]
     · exact (PPolicy.join _ (hs.only (D := [ow x16 F16, ow x17 F17, ow x18 F18]) Q2) (by first | exact Ph.old h_a.set hs | trivial | assumption | exact Nat.zero_le _) (by first | exact Ph.old h_a.nonce hs | trivial | assumption | exact Nat.zero_le _)).fresh List.mem_cons_self

theorem c_impl_Allows (p : PPolicy) (kind : Int) (host : Str) (w : World) (h_p : Ph.ok w p)  : Calls Tryd.prog 18 [.agg #[Bo p.set, Sl.v p.scripts, Sl.v p.styles, Sl.v p.images, S p.nonce], I kind, S host].toArray w (RetP w (Bo (p.lg.allows kind host))) := by
 refine enterN 30 Tryd.func18 rfl rfl rfl ?_
 have hs := Sat.start w
 refine WC.seq ?_
 refine WL.r Q0 (Yr.box hs Q0 Q0) ?_
 clear hs; rintro _ w ⟨b1, rfl, hb, hs⟩; clear hb
 refine Qa ?_
 refine WL.next ?_
 refine WC.seq' ?_
 refine WC.seq ?_
 refine WL.p Q0 (Yl.fieldAddr fa26_0 Q0) ?_
 refine WL.p Q0 (Yl.loadB sca4 Q0 hs Q1 Q0) ?_
 refine WL.p Q0 (Yl.not Q0) ?_
 refine WL.next ?_
 refine WC.condS Q0 (fun h1 => ?_) (fun h1 => ?_)
 ·
  replace h1 := not_eq_true h1
  refine WC.seq ?_
  refine Qa ?_
  refine WL.next ?_
  refine WC.ret ?_
  refine At.thenret ?_
  refine fin1' rfl Q0 ?_
  refine RetP.mk hs ?_
  simp_all [TPolicy.allows]
 ·
  replace h1 := not_eq_false h1
  refine WC.skipn ?_
  refine WC.seq' ?_
  refine WC.seq ?_
  refine Qm ?_
  refine WL.next ?_
  refine WC.block ?_
  refine WC.seq' ?_
  refine WC.seq ?_
  refine WL.p Q0 (Yl.eqi Q0 Q0) ?_
  refine Qa ?_
  refine WL.next ?_
  refine WC.condS Q0 (fun h2 => ?_) (fun h2 => ?_)
  ·
   replace h2 := of_decide_eq_true h2
   refine WC.skipn ?_
   refine WC.condT Q0 ?_
   refine WC.seq ?_
   refine WL.p Q0 (Yl.fieldAddr fa26_1 Q0) ?_
   refine WL.p Q0 (Yl.loadB sca24 Q0 hs Q1 Q0) ?_
   refine Qm ?_
   refine WL.callp hs Q0 (Yc.func Q0 fn66) (c_slices_Contains___string_string_ _ _ _ (Ph.old h_p.scripts hs)) ?_
   clear hs; intro w hs
   refine Qa ?_
   refine WL.next ?_
   refine WC.ret ?_
   refine At.blockret ?_
   refine At.thenret ?_
   refine fin1' rfl Q0 ?_
   refine RetP.mk hs ?_
   simp_all [TPolicy.allows]
  ·
   replace h2 := of_decide_eq_false h2
   refine WC.region ?_
   refine WL.p Q0 (Yl.eqi Q0 Q0) ?_
   refine Qa ?_
   refine WL.nil ?_
   refine At.then_ ?_
   refine WC.condS Q0 (fun h3 => ?_) (fun h3 => ?_)
   ·
    replace h3 := of_decide_eq_true h3
    refine WC.seq ?_
    refine WL.p Q0 (Yl.fieldAddr fa26_1 Q0) ?_
    refine WL.p Q0 (Yl.loadB sca24 Q0 hs Q1 Q0) ?_
    refine Qm ?_
    refine WL.callp hs Q0 (Yc.func Q0 fn66) (c_slices_Contains___string_string_ _ _ _ (Ph.old h_p.scripts hs)) ?_
    clear hs; intro w hs
    refine Qa ?_
    refine WL.next ?_
    refine WC.ret ?_
    refine At.blockret ?_
    refine At.thenret ?_
    refine fin1' rfl Q0 ?_
    refine RetP.mk hs ?_
    simp_all [TPolicy.allows]
   ·
    replace h3 := of_decide_eq_false h3
    refine WC.seq ?_
    refine WL.p Q0 (Yl.eqi Q0 Q0) ?_
    refine Qa ?_
    refine WL.next ?_
    refine WC.condS Q0 (fun h4 => ?_) (fun h4 => ?_)
    ·
     replace h4 := of_decide_eq_true h4
     refine WC.seq ?_
     refine WL.p Q0 (Yl.fieldAddr fa26_2 Q0) ?_
     refine WL.p Q0 (Yl.loadB sca24 Q0 hs Q1 Q0) ?_
     refine Qm ?_
     refine WL.callp hs Q0 (Yc.func Q0 fn66) (c_slices_Contains___string_string_ _ _ _ (Ph.old h_p.styles hs)) ?_
     clear hs; intro w hs
     refine Qa ?_
     refine WL.next ?_
     refine WC.ret ?_
     refine At.blockret ?_
     refine At.thenret ?_
     refine fin1' rfl Q0 ?_
     refine RetP.mk hs ?_
     simp_all [TPolicy.allows]
    ·
     replace h4 := of_decide_eq_false h4
     refine WC.seq ?_
     refine WL.p Q0 (Yl.eqi Q0 Q0) ?_
     refine Qa ?_
     refine WL.next ?_
     refine WC.condS Q0 (fun h5 => ?_) (fun h5 => ?_)
     ·
      replace h5 := of_decide_eq_true h5
      refine WC.seq ?_
      refine WL.p Q0 (Yl.fieldAddr fa26_3 Q0) ?_
      refine WL.p Q0 (Yl.loadB sca24 Q0 hs Q1 Q0) ?_
      refine Qm ?_
      refine WL.callp hs Q0 (Yc.func Q0 fn66) (c_slices_Contains___string_string_ _ _ _ (Ph.old h_p.images hs)) ?_
      clear hs; intro w hs
      refine Qa ?_
      refine WL.next ?_
      refine WC.ret ?_
      refine At.blockret ?_
      refine At.thenret ?_
      refine fin1' rfl Q0 ?_
      refine RetP.mk hs ?_
      simp_all [TPolicy.allows]
     ·
      replace h5 := of_decide_eq_false h5
      refine WC.skip ?_
      refine At.blocknormal ?_
      refine At.then_ ?_
      refine WC.seq ?_
      refine Qa ?_
      refine WL.next ?_
      refine WC.ret ?_
      refine fin1' rfl Q0 ?_
      refine RetP.mk hs ?_
      simp_all [TPolicy.allows]

theorem c_impl_AllowsInline (p : PPolicy) (nonce : Str) (w : World) (h_p : Ph.ok w p)  : Calls Tryd.prog 19 [.agg #[Bo p.set, Sl.v p.scripts, Sl.v p.styles, Sl.v p.images, S p.nonce], S nonce].toArray w (RetP w (Bo (p.lg.inl nonce))) := by
 refine enterN 19 Tryd.func19 rfl rfl rfl ?_
 have hs := Sat.start w
 refine WC.seq ?_
 refine WL.r Q0 (Yr.box hs Q0 Q0) ?_
 clear hs; rintro _ w ⟨b1, rfl, hb, hs⟩; clear hb
 refine Qa ?_
 refine WL.next ?_
 refine WC.seq ?_
 refine WL.p Q0 (Yl.fieldAddr fa26_0 Q0) ?_
 refine WL.p Q0 (Yl.loadB sca4 Q0 hs Q1 Q0) ?_
 refine WL.p Q0 (Yl.not Q0) ?_
 refine Qm ?_
 refine WL.split (d := 8) Q0 (fun h1 => ?_) (fun h1 => ?_)
 ·
  replace h1 := not_eq_true h1
  refine WL.skip (d := 8) Q0 Q0 Q0 Q0 ?_
  refine WL.skip (d := 8) Q0 Q0 Q0 Q0 ?_
  refine WL.skip (d := 8) Q0 Q0 Q0 Q0 ?_
  refine WL.skip (d := 8) Q0 Q0 Q0 Q0 ?_
  refine WL.skipU (d := 12) Q0 Q0 Q0 ?_
  refine WL.skipU (d := 12) Q0 Q0 Q0 ?_
  refine WL.skipU (d := 12) Q0 Q0 Q0 ?_
  refine WL.skipU (d := 12) Q0 Q0 Q0 ?_
  refine WL.skip (d := 8) Q0 Q0 Q0 Q0 ?_
  refine WL.p Q0 (Yl.pickT Q0 Q0) ?_
  refine Qa ?_
  refine WL.next ?_
  refine WC.ret ?_
  refine fin1' rfl Q0 ?_
  refine RetP.mk hs ?_
  simp_all [TPolicy.inl]
 ·
  replace h1 := not_eq_false h1
  refine WL.run (d := 8) Q0 Q0 ?_
  refine WL.p Q0 (Yl.fieldAddr fa26_4 Q0) ?_
  refine WL.run (d := 8) Q0 Q0 ?_
  refine WL.p Q0 (Yl.loadB sca9 Q0 hs Q1 Q0) ?_
  refine WL.run (d := 8) Q0 Q0 ?_
  refine WL.p Q0 (Yl.nes Q0 Q0) ?_
  refine WL.run (d := 8) Q0 Q0 ?_
  refine Qm ?_
  refine WL.split (d := 12) Q0 (fun h2 => ?_) (fun h2 => ?_)
  ·
   replace h2 := not_eq_true h2
   replace h2 := of_decide_eq_false h2
   refine WL.run (d := 12) Q0 Q0 ?_
   refine WL.p Q0 (Yl.fieldAddr fa26_4 Q0) ?_
   refine WL.run (d := 12) Q0 Q0 ?_
   refine WL.p Q0 (Yl.loadB sca9 Q0 hs Q1 Q0) ?_
   refine WL.run (d := 12) Q0 Q0 ?_
   refine Qm ?_
   refine WL.run (d := 12) Q0 Q0 ?_
   refine WL.p Q0 (Yl.eqs Q0 Q0) ?_
   refine WL.run (d := 8) Q0 Q0 ?_
   refine WL.p Q0 (Yl.pickT Q0 Q0) ?_
   refine WL.p Q0 (Yl.pickF Q0 Q0) ?_
   refine Qa ?_
   refine WL.next ?_
   refine WC.ret ?_
   refine fin1' rfl Q0 ?_
   refine RetP.mk hs ?_
   simp_all [TPolicy.inl]
  ·
   replace h2 := not_eq_false h2
   replace h2 := of_decide_eq_true h2
   refine WL.skip (d := 12) Q0 Q0 Q0 Q0 ?_
   refine WL.skip (d := 12) Q0 Q0 Q0 Q0 ?_
   refine WL.skip (d := 12) Q0 Q0 Q0 Q0 ?_
   refine WL.skip (d := 12) Q0 Q0 Q0 Q0 ?_
   refine WL.run (d := 8) Q0 Q0 ?_
   refine WL.p Q0 (Yl.pickF Q0 Q0) ?_
   refine WL.p Q0 (Yl.pickF Q0 Q0) ?_
   refine Qa ?_
   refine WL.next ?_
   refine WC.ret ?_
   refine fin1' rfl Q0 ?_
   refine RetP.mk hs ?_
   simp_all [TPolicy.inl]

theorem c_laws_FnPolicies (code : (Sl UInt8)) (w : World) (h_code : Ph.ok w code) (hm_ : ∃ m, w.cell? ⟨0, 0, none⟩ = some (.int .i64 m)) : Calls Tryd.prog 3 [Sl.v code].toArray w (RetP w (Bo true)) := by
 refine enterN 113 Tryd.func3 rfl rfl rfl ?_
 have hs := Sat.start w
 refine WC.seq ?_
 refine Qa ?_
 refine WL.next ?_
 refine WC.seq' ?_
 refine WC.seq ?_
 refine Qm ?_
 refine WL.callp hs Q0 (Yc.func Q0 fn7) (c_laws_big _ _ (Ph.old h_code hs)) ?_
 clear hs; intro w hs
 refine WL.next ?_
 refine WC.condS Q0 (fun h1 => ?_) (fun h1 => ?_)
 ·
  replace h1 := of_decide_eq_true h1
  refine WC.seq ?_
  refine Qa ?_
  refine WL.next ?_
  refine WC.ret ?_
  refine At.thenret ?_
  refine fin1' rfl Q0 ?_
  refine RetP.mk hs ?_
  first
   | rfl
   | (clear hs; simp_all [narrow_inl])
 ·
  replace h1 := of_decide_eq_false h1
  refine WC.skipn ?_
  refine WC.seq ?_
  refine Qm ?_
  refine WL.callx hs Q0 (Yc.func Q0 fn8) (c_spec_DrawFormatPolicy _ _ (Ph.old h_code hs)) ?_
  clear hs; intro v w ho hR hs
  obtain ⟨x1, rfl, _, hx1, hf1⟩ := hR
  obtain ⟨F1, hs⟩ := hs.addF ho hf1
  clear ho hf1
  have g1 := fmtPolicy_len x1.lg
  refine WL.r Q0 (Yr.alloc hs zt26) ?_
  clear hs; rintro _ w ⟨b2, rfl, hb, hs⟩; clear hb
  refine WL.s (Yr.storeB hs Q0 Q0 Q0 Q5 Q3 Q0 (by exact szf26)) ?_
  clear hs; rintro _ w hs
  refine WL.next ?_
  refine WC.seq ?_
  refine WL.p Q0 (Yl.loadAB agg26 Q0 hs Q1 Q0 Q0) ?_
  refine WL.callp hs Q0 (Yc.func Q0 fn10) (c_impl_FormatPolicy _ _ (hs.okow (x := x1) (F := F1) Q1) Q7) ?_
  clear hs; intro w hs
  refine WL.call hs Q0 (Yc.func Q0 fn9) (c_impl_ParsePolicy _ _ Q7 (by first | assumption | exact Sat.cellm hs (by assumption))) ?_
  have hs0 := hs; clear hs; intro v w hb hR hs; clear hs
  obtain ⟨x3, rfl, hx3, hf3⟩ := hR
  obtain ⟨F3, hs⟩ := hf3.sat hs0 hb; clear hs0 hf3
  have gz3 := policyOf_size_of hx3
  refine Qm ?_
  refine WL.p Q0 (Yl.extract Q0 Q0) ?_
  refine WL.p Q0 (Yl.extract Q0 Q0) ?_
  refine WL.r Q0 (Yr.alloc hs zt26) ?_
  clear hs; rintro _ w ⟨b4, rfl, hb, hs⟩; clear hb
  refine WL.s (Yr.storeB hs Q0 Q0 Q0 Q5 Q3 Q0 (by exact szf26)) ?_
  clear hs; rintro _ w hs
  refine Qa ?_
  refine WL.next ?_
  refine WC.seq' ?_
  refine WC.quietnJ (fun b => [(45, Bo b)]) (fun b => b = false) [(0, _), (2, _), (3, _), (4, _), (5, _), (18, _)] mixed Q6 hs ⟨by rfl, by rfl, by rfl, by rfl, by rfl, by rfl, trivial⟩ ?_ ?_
  ·
   clear hs; intro Qa join
   refine WQ.p Q0 (fun w hs => Yl.loadAB agg26 Q0 hs Q1 Q0 Q0) ?_
   refine WQ.callp Q0 (fun w => Yc.func Q0 fn11) (fun w hs => (c_impl_IsPolicy _ _ (hs.okow (x := x1) (F := F1) Q1))) (fun _ _ hs hb => hs.ext hb) ?_
   refine WQ.p Q0 (fun w hs => Yl.loadAB agg26 Q0 hs Q1 Q0 Q0) ?_
   refine WQ.callp Q0 (fun w => Yc.func Q0 fn12) (fun w hs => (c_spec_IsPolicy _ _ (hs.okow (x := x1) (F := F1) Q1))) (fun _ _ hs hb => hs.ext hb) ?_
   refine WQ.p Q0 (fun w hs => Yl.neb bool4 Q0 Q0) ?_
   refine WQ.p Q0 (fun w hs => Yl.move Q0) ?_
   refine WQ.split (d := 32) Q0 (fun h2 => ?_) (fun h2 => ?_)
   ·
    replace h2 := not_eq_true h2
    replace h2 := beq_false h2
    refine WQ.skip (d := 32) Q0 Q0 Q0 Q0 ?_
    refine WQ.skip (d := 32) Q0 Q0 Q0 Q0 ?_
    refine WQ.skip (d := 32) Q0 Q0 Q0 Q0 ?_
    refine WQ.skipU (d := 35) Q0 Q0 Q0 ?_
    refine WQ.skipU (d := 35) Q0 Q0 Q0 ?_
    refine WQ.skipU (d := 35) Q0 Q0 Q0 ?_
    refine WQ.skipU (d := 38) Q0 Q0 Q0 ?_
    refine WQ.skipU (d := 38) Q0 Q0 Q0 ?_
    refine WQ.skipU (d := 38) Q0 Q0 Q0 ?_
    refine WQ.skipU (d := 38) Q0 Q0 Q0 ?_
    refine WQ.skipU (d := 35) Q0 Q0 Q0 ?_
    refine WQ.skip (d := 32) Q0 Q0 Q0 Q0 ?_
    refine WQ.p Q0 (fun w hs => Yl.pickT Q0 Q0) ?_
    refine WQ.nil fun a ha => join _ _ ?_ ⟨by rfl, trivial⟩ ⟨by rfl, by rfl, by rfl, by rfl, by rfl, by rfl, trivial⟩ a ha
    (try clear join); (try clear ha); (try clear hs)
    simp_all [pol_round, pol_back, narrow_allows, narrow_inl]
   ·
    replace h2 := not_eq_false h2
    replace h2 := beq_true h2
    refine WQ.run (d := 32) Q0 Q0 ?_
    refine WQ.p Q0 (fun w hs => Yl.loadAB agg26 Q0 hs Q1 Q0 Q0) ?_
    refine WQ.run (d := 32) Q0 Q0 ?_
    refine WQ.callp Q0 (fun w => Yc.func Q0 fn11) (fun w hs => (c_impl_IsPolicy _ _ (hs.okow (x := x1) (F := F1) Q1))) (fun _ _ hs hb => hs.ext hb) ?_
    refine WQ.run (d := 32) Q0 Q0 ?_
    refine WQ.p Q0 (fun w hs => Yl.move Q0) ?_
    refine WQ.split (d := 35) Q0 (fun h3 => ?_) (fun h3 => ?_)
    ·
     refine WQ.run (d := 35) Q0 Q0 ?_
     refine WQ.p Q0 (fun w hs => Yl.move Q0) ?_
     refine WQ.run (d := 35) Q0 Q0 ?_
     refine WQ.p Q0 (fun w hs => Yl.not Q0) ?_
     refine WQ.run (d := 35) Q0 Q0 ?_
     refine WQ.p Q0 (fun w hs => Yl.move Q0) ?_
     refine WQ.split (d := 38) Q0 (fun h4 => ?_) (fun h4 => ?_)
     ·
      replace h4 := not_eq_true h4
      refine WQ.skip (d := 38) Q0 Q0 Q0 Q0 ?_
      refine WQ.skip (d := 38) Q0 Q0 Q0 Q0 ?_
      refine WQ.skip (d := 38) Q0 Q0 Q0 Q0 ?_
      refine WQ.skip (d := 38) Q0 Q0 Q0 Q0 ?_
      refine WQ.run (d := 35) Q0 Q0 ?_
      refine WQ.p Q0 (fun w hs => Yl.pickT Q0 Q0) ?_
      refine WQ.run (d := 32) Q0 Q0 ?_
      refine WQ.p Q0 (fun w hs => Yl.pickT Q0 Q0) ?_
      refine WQ.p Q0 (fun w hs => Yl.pickF Q0 Q0) ?_
      refine WQ.nil fun a ha => join _ _ ?_ ⟨by rfl, trivial⟩ ⟨by rfl, by rfl, by rfl, by rfl, by rfl, by rfl, trivial⟩ a ha
      (try clear join); (try clear ha); (try clear hs)
      simp_all [pol_round, pol_back, narrow_allows, narrow_inl]
     ·
      replace h4 := not_eq_false h4
      refine WQ.run (d := 38) Q0 Q0 ?_
      refine WQ.p Q0 (fun w hs => Yl.loadAB agg26 Q0 hs Q1 Q0 Q0) ?_
      refine WQ.run (d := 38) Q0 Q0 ?_
      refine WQ.p Q0 (fun w hs => Yl.loadAB agg26 Q0 hs Q1 Q0 Q0) ?_
      refine WQ.run (d := 38) Q0 Q0 ?_
      refine WQ.callp Q0 (fun w => Yc.func Q0 fn13) (fun w hs => (c_impl_EqualPolicies _ _ _ (hs.okow (x := x3) (F := F3) Q1) (hs.okow (x := x1) (F := F1) Q1))) (fun _ _ hs hb => hs.ext hb) ?_
      refine WQ.run (d := 38) Q0 Q0 ?_
      refine WQ.p Q0 (fun w hs => Yl.not Q0) ?_
      refine WQ.run (d := 35) Q0 Q0 ?_
      refine WQ.p Q0 (fun w hs => Yl.pickF Q0 Q0) ?_
      refine WQ.run (d := 32) Q0 Q0 ?_
      refine WQ.p Q0 (fun w hs => Yl.pickT Q0 Q0) ?_
      refine WQ.p Q0 (fun w hs => Yl.pickF Q0 Q0) ?_
      refine WQ.nil fun a ha => join _ _ ?_ ⟨by rfl, trivial⟩ ⟨by rfl, by rfl, by rfl, by rfl, by rfl, by rfl, trivial⟩ a ha
      (try clear join); (try clear ha); (try clear hs)
      simp_all [pol_round, pol_back, narrow_allows, narrow_inl]
    ·
     refine WQ.skip (d := 35) Q0 Q0 Q0 Q0 ?_
     refine WQ.skip (d := 35) Q0 Q0 Q0 Q0 ?_
     refine WQ.skip (d := 35) Q0 Q0 Q0 Q0 ?_
     refine WQ.skipU (d := 38) Q0 Q0 Q0 ?_
     refine WQ.skipU (d := 38) Q0 Q0 Q0 ?_
     refine WQ.skipU (d := 38) Q0 Q0 Q0 ?_
     refine WQ.skipU (d := 38) Q0 Q0 Q0 ?_
     refine WQ.skip (d := 35) Q0 Q0 Q0 Q0 ?_
     refine WQ.run (d := 32) Q0 Q0 ?_
     refine WQ.p Q0 (fun w hs => Yl.pickF Q0 Q0) ?_
     refine WQ.p Q0 (fun w hs => Yl.pickF Q0 Q0) ?_
     refine WQ.nil fun a ha => join _ _ ?_ ⟨by rfl, trivial⟩ ⟨by rfl, by rfl, by rfl, by rfl, by rfl, by rfl, trivial⟩ a ha
     rfl
  ·
   clear hs; rintro _ w rfl hs
   refine WC.condF Q0 ?_
   refine WC.skipn ?_
   refine WC.seq ?_
   refine Qm ?_
   refine WL.callx hs Q0 (Yc.func Q0 fn14) (c_spec_DrawParsePolicy _ _ (Ph.old h_code hs)) ?_
   clear hs; intro v w ho hR hs
   obtain ⟨x5, rfl, hokx5, hx5, hf5⟩ := hR
   clear ho hf5
   refine Qa ?_
   refine WL.next ?_
   refine WC.seq ?_
   refine Qm ?_
   refine WL.call hs Q0 (Yc.func Q0 fn9) (c_impl_ParsePolicy _ _ Q7 (by first | assumption | exact Sat.cellm hs (by assumption))) ?_
   have hs0 := hs; clear hs; intro v w hb hR hs; clear hs
   obtain ⟨x6, rfl, hx6, hf6⟩ := hR
   obtain ⟨F6, hs⟩ := hf6.sat hs0 hb; clear hs0 hf6
   have gz6 := policyOf_size_of hx6
   refine Qm ?_
   refine WL.p Q0 (Yl.extract Q0 Q0) ?_
   refine WL.p Q0 (Yl.extract Q0 Q0) ?_
   refine WL.r Q0 (Yr.alloc hs zt26) ?_
   clear hs; rintro _ w ⟨b7, rfl, hb, hs⟩; clear hb
   refine WL.s (Yr.storeB hs Q0 Q0 Q0 Q5 Q3 Q0 (by exact szf26)) ?_
   clear hs; rintro _ w hs
   refine Qa ?_
   refine WL.next ?_
   refine WC.seq ?_
   refine Qm ?_
   refine WL.call hs Q0 (Yc.func Q0 fn15) (c_spec_ParsePolicy _ _ Q7) ?_
   have hs0 := hs; clear hs; intro v w hb hR hs; clear hs
   obtain ⟨x8, rfl, hx8, hf8⟩ := hR
   obtain ⟨F8, hs⟩ := hf8.sat hs0 hb; clear hs0 hf8
   refine Qm ?_
   refine WL.p Q0 (Yl.extract Q0 Q0) ?_
   refine WL.p Q0 (Yl.extract Q0 Q0) ?_
   refine WL.r Q0 (Yr.alloc hs zt26) ?_
   clear hs; rintro _ w ⟨b9, rfl, hb, hs⟩; clear hb
   refine WL.s (Yr.storeB hs Q0 Q0 Q0 Q5 Q3 Q0 (by exact szf26)) ?_
   clear hs; rintro _ w hs
   refine Qa ?_
   refine WL.next ?_
   refine WC.seq' ?_
   refine WC.seqJ (fun b => [(69, Bo b)]) (fun b => b = false) [(0, _), (2, _), (3, _), (4, _), (5, _), (6, _), (7, _), (8, _), (10, _), (18, _), (45, _)] hs ⟨by rfl, by rfl, by rfl, by rfl, by rfl, by rfl, by rfl, by rfl, by rfl, by rfl, by rfl, trivial⟩ ?_ ?_
   ·
    intro Q9 join
    refine WC.region ?_
    refine Qm ?_
    refine Qm ?_
    refine WL.p Q0 (Yl.neb bool4 Q0 Q0) ?_
    refine Qm ?_
    refine WL.split (d := 61) Q0 (fun h2 => ?_) (fun h2 => ?_)
    ·
     replace h2 := not_eq_true h2
     replace h2 := beq_false h2
     refine WL.skip (d := 61) Q0 Q0 Q0 Q0 ?_
     refine WL.skip (d := 61) Q0 Q0 Q0 Q0 ?_
     refine WL.skipU (d := 63) Q0 Q0 Q0 ?_
     refine WL.skipU (d := 63) Q0 Q0 Q0 ?_
     refine WL.skipU (d := 63) Q0 Q0 Q0 ?_
     refine WL.skipU (d := 63) Q0 Q0 Q0 ?_
     refine WL.skip (d := 61) Q0 Q0 Q0 Q0 ?_
     refine WL.p Q0 (Yl.pickT Q0 Q0) ?_
     refine WL.nil ?_
     refine join _ _ _ ?_ (hs.only Q2) ⟨by rfl, trivial⟩ ⟨by rfl, by rfl, by rfl, by rfl, by rfl, by rfl, by rfl, by rfl, by rfl, by rfl, by rfl, trivial⟩
     (try clear join); (try clear ha); (try clear hs)
     simp_all [pol_round, pol_back, narrow_allows, narrow_inl]
    ·
     replace h2 := not_eq_false h2
     replace h2 := beq_true h2
     refine WL.run (d := 61) Q0 Q0 ?_
     refine Qm ?_
     refine WL.run (d := 61) Q0 Q0 ?_
     refine Qm ?_
     refine WL.split (d := 63) Q0 (fun h3 => ?_) (fun h3 => ?_)
     ·
      refine WL.run (d := 63) Q0 Q0 ?_
      refine WL.p Q0 (Yl.loadAB agg26 Q0 hs Q1 Q0 Q0) ?_
      refine WL.run (d := 63) Q0 Q0 ?_
      refine WL.callp hs Q0 (Yc.func Q0 fn10) (c_impl_FormatPolicy _ _ (hs.okow (x := x6) (F := F6) Q1) Q7) ?_
      clear hs; intro w hs
      refine WL.run (d := 63) Q0 Q0 ?_
      refine Qm ?_
      refine WL.run (d := 63) Q0 Q0 ?_
      refine WL.p Q0 (Yl.nes Q0 Q0) ?_
      refine WL.run (d := 61) Q0 Q0 ?_
      refine WL.p Q0 (Yl.pickT Q0 Q0) ?_
      refine WL.p Q0 (Yl.pickF Q0 Q0) ?_
      refine WL.nil ?_
      refine join _ _ _ ?_ (hs.only Q2) ⟨by rfl, trivial⟩ ⟨by rfl, by rfl, by rfl, by rfl, by rfl, by rfl, by rfl, by rfl, by rfl, by rfl, by rfl, trivial⟩
      (try clear join); (try clear ha); (try clear hs)
      simp_all [pol_round, pol_back, narrow_allows, narrow_inl]
     ·
      refine WL.skip (d := 63) Q0 Q0 Q0 Q0 ?_
      refine WL.skip (d := 63) Q0 Q0 Q0 Q0 ?_
      refine WL.skip (d := 63) Q0 Q0 Q0 Q0 ?_
      refine WL.skip (d := 63) Q0 Q0 Q0 Q0 ?_
      refine WL.run (d := 61) Q0 Q0 ?_
      refine WL.p Q0 (Yl.pickF Q0 Q0) ?_
      refine WL.p Q0 (Yl.pickF Q0 Q0) ?_
      refine WL.nil ?_
      refine join _ _ _ ?_ (hs.only Q2) ⟨by rfl, trivial⟩ ⟨by rfl, by rfl, by rfl, by rfl, by rfl, by rfl, by rfl, by rfl, by rfl, by rfl, by rfl, trivial⟩
      rfl
   ·
    clear hs; rintro _ w rfl hs
    refine WC.condF Q0 ?_
    refine WC.skipn ?_
    refine WC.seq ?_
    refine Qm ?_
    refine WL.callx hs Q0 (Yc.func Q0 fn16) (c_spec_DrawNarrowPolicy _ _ (Ph.old h_code hs)) ?_
    clear hs; intro v w ho hR hs
    obtain ⟨x10_a, x10_b, rfl, _, hx10, hf10⟩ := hR
    obtain ⟨F10, F10_2, hs⟩ := hs.addF2 ho hf10
    clear ho hf10
    refine Qm ?_
    refine WL.p Q0 (Yl.extract Q0 Q0) ?_
    refine WL.p Q0 (Yl.extract Q0 Q0) ?_
    refine WL.r Q0 (Yr.alloc hs zt26) ?_
    clear hs; rintro _ w ⟨b11, rfl, hb, hs⟩; clear hb
    refine WL.r Q0 (Yr.alloc hs zt26) ?_
    clear hs; rintro _ w ⟨b12, rfl, hb, hs⟩; clear hb
    refine WL.s (Yr.storeB hs Q0 Q0 Q0 Q5 Q3 Q0 (by exact szf26)) ?_
    clear hs; rintro _ w hs
    refine WL.s (Yr.storeB hs Q0 Q0 Q0 Q5 Q3 Q0 (by exact szf26)) ?_
    clear hs; rintro _ w hs
    refine WL.next ?_
    refine WC.seq ?_
    refine WL.p Q0 (Yl.loadAB agg26 Q0 hs Q1 Q0 Q0) ?_
    refine WL.p Q0 (Yl.loadAB agg26 Q0 hs Q1 Q0 Q0) ?_
    refine WL.call hs Q0 (Yc.func Q0 fn17) (c_impl_NarrowPolicy _ _ _ (hs.okow (x := x10_a) (F := F10) Q1) (hs.okow (x := x10_b) (F := F10_2) Q1) Q7 Q7) ?_
    have hs0 := hs; clear hs; intro v w hb hR hs; clear hs
    obtain ⟨x13, rfl, hx13, hf13⟩ := hR
    obtain ⟨F13, hs⟩ := hf13.sat hs0 hb; clear hs0 hf13
    refine WL.r Q0 (Yr.alloc hs zt26) ?_
    clear hs; rintro _ w ⟨b14, rfl, hb, hs⟩; clear hb
    refine WL.s (Yr.storeB hs Q0 Q0 Q0 Q5 Q3 Q0 (by exact szf26)) ?_
    clear hs; rintro _ w hs
    refine WL.next ?_
    refine WC.seq' ?_
    refine WC.seq ?_
    refine Qa ?_
    refine WL.next ?_
    refine WC.block ?_
    refine WC.loopC (ι := Nat) (fun m => 6 - m) (fun m => [(14, I (m : Int))]) (fun _ => []) (fun m => m ≤ 6) [(0, _), (3, _), (4, _), (5, _), (6, _), (7, _), (8, _), (10, _), (11, _), (12, _), (13, _), (18, _), (45, _), (69, _)] 1 (hs) ⟨by rfl, by rfl, by rfl, by rfl, by rfl, by rfl, by rfl, by rfl, by rfl, by rfl, by rfl, by rfl, by rfl, by rfl, trivial⟩ ⟨by rfl, trivial⟩ ?_ ?_
    ·
     omega
    clear hs; rintro m w hJ hs
    simp only [List.nil_append] at hs
    refine WC.seq' ?_
    refine WC.seq ?_
    refine Qm ?_
    refine WL.p Q0 (Yl.leq Q0 Q0) ?_
    refine WL.next ?_
    refine WC.condS Q0 (fun h2 => ?_) (fun h2 => ?_)
    ·
     replace h2 := of_decide_eq_true h2
     skip
     refine WC.skipn ?_
     refine WC.seq' ?_
     refine WC.block ?_
     refine WC.seq ?_
     refine WL.r Q0 (Yr.buildSlice hs sll24 Q0 Q0 Q0 Q4 Q0) ?_
     clear hs; rintro _ w ⟨b15, rfl, hb, hs⟩; clear hb
     replace hs := Sat.boxow (l := ([([104, 111, 109, 101] : Str), ([99, 100, 110] : Str), ([101, 118, 105, 108] : Str), ([111, 116, 104, 101, 114] : Str)] : List Str)) (hs.sel (D := [box b15 _ _]) Q2) rfl rfl (by decide) (ownL_mk_flat (lit_str Q0))
     try simp only [List.cons_append, List.nil_append] at hs
     refine WL.p Q0 (Yl.len_sl slu24 Q0) ?_
     refine Qm ?_
     refine WL.next ?_
     refine WC.block ?_
     refine WC.loopC (ι := Nat) (fun k => 4 - k) (fun k => [(84, I (k : Int))]) (fun _ => []) (fun k => True) [(0, _), (3, _), (4, _), (5, _), (6, _), (7, _), (8, _), (10, _), (11, _), (12, _), (13, _), (14, _), (18, _), (45, _), (69, _), (79, _), (82, _), (83, _)] 0 (hs) ⟨by rfl, by rfl, by rfl, by rfl, by rfl, by rfl, by rfl, by rfl, by rfl, by rfl, by rfl, by rfl, by rfl, by rfl, by rfl, by rfl, by rfl, by rfl, trivial⟩ ⟨by rfl, trivial⟩ ?_ ?_
     ·
      exact trivial
     clear hs; rintro k w hJ hs
     simp only [List.nil_append] at hs
     refine WC.seq ?_
     refine WL.p Q0 (Yl.lss Q0 Q0) ?_
     refine WL.next ?_
     refine WC.seq' ?_
     refine WC.condS Q0 (fun h3 => ?_) (fun h3 => ?_)
     ·
      replace h3 := of_decide_eq_true h3
      replace h3 : (k : Int) < 4 := h3
      obtain ⟨d, hd⟩ := exists_get (l := ([([104, 111, 109, 101] : Str), ([99, 100, 110] : Str), ([101, 118, 105, 108] : Str), ([111, 116, 104, 101, 114] : Str)] : List Str)) (k := k) (by simp; omega)
      refine WC.skipn ?_
      refine WC.seq' ?_
      refine WC.block ?_
      refine WC.seq ?_
      refine WL.p Q0 (Yl.indexAddr slt24 Q0 Q0 (hs.okow (x := (⟨[([104, 111, 109, 101] : Str), ([99, 100, 110] : Str), ([101, 118, 105, 108] : Str), ([111, 116, 104, 101, 114] : Str)], some ⟨b15, 0, none⟩, 4⟩ : Sl Str)) (F := [b15]) Q1) Q0 (hd)) ?_
      refine WL.p Q0 (Yl.loadC0 sca9 Q0 (Sl.Ok.at_ (hs.okow (x := (⟨[([104, 111, 109, 101] : Str), ([99, 100, 110] : Str), ([101, 118, 105, 108] : Str), ([111, 116, 104, 101, 114] : Str)], some ⟨b15, 0, none⟩, 4⟩ : Sl Str)) (F := [b15]) Q1) (by assumption)).2 Q0) ?_
      refine Qa ?_
      refine WL.next ?_
      refine WC.quietn mixed Q6 hs ?_
      refine WQ.p Q0 (fun w hs => Yl.loadAB agg26 Q0 hs Q1 Q0 Q0) ?_
      refine WQ.p Q0 (fun w hs => Yl.move Q0) ?_
      refine WQ.p Q0 (fun w hs => Yl.move Q0) ?_
      refine WQ.callp Q0 (fun w => Yc.func Q0 fn18) (fun w hs => (c_impl_Allows _ _ _ _ (hs.okow (x := x13) (F := F13) Q1))) (fun _ _ hs hb => hs.ext hb) ?_
      refine WQ.p Q0 (fun w hs => Yl.loadAB agg26 Q0 hs Q1 Q0 Q0) ?_
      refine WQ.p Q0 (fun w hs => Yl.move Q0) ?_
      refine WQ.p Q0 (fun w hs => Yl.move Q0) ?_
      refine WQ.callp Q0 (fun w => Yc.func Q0 fn18) (fun w hs => (c_impl_Allows _ _ _ _ (hs.okow (x := x10_a) (F := F10) Q1))) (fun _ _ hs hb => hs.ext hb) ?_
      refine WQ.p Q0 (fun w hs => Yl.move Q0) ?_
      refine WQ.split (d := 96) Q0 (fun h4 => ?_) (fun h4 => ?_)
      ·
       refine WQ.run (d := 96) Q0 Q0 ?_
       refine WQ.p Q0 (fun w hs => Yl.loadAB agg26 Q0 hs Q1 Q0 Q0) ?_
       refine WQ.run (d := 96) Q0 Q0 ?_
       refine WQ.p Q0 (fun w hs => Yl.move Q0) ?_
       refine WQ.run (d := 96) Q0 Q0 ?_
       refine WQ.p Q0 (fun w hs => Yl.move Q0) ?_
       refine WQ.run (d := 96) Q0 Q0 ?_
       refine WQ.callp Q0 (fun w => Yc.func Q0 fn18) (fun w hs => (c_impl_Allows _ _ _ _ (hs.okow (x := x10_b) (F := F10_2) Q1))) (fun _ _ hs hb => hs.ext hb) ?_
       refine WQ.p Q0 (fun w hs => Yl.pickT Q0 Q0) ?_
       refine WQ.p Q0 (fun w hs => Yl.neb bool4 Q0 Q0) ?_
       refine WQ.next ?_
       clear hs; intro w hs
       refine WC.condS Q0 (fun h5 => ?_) (fun h5 => ?_)
       ·
        replace h5 := not_eq_true h5
        replace h5 := beq_false h5
        exfalso
        (try clear join); (try clear ha); (try clear hs)
        simp_all [narrow_allows]
       ·
        replace h5 := not_eq_false h5
        replace h5 := beq_true h5
        refine WC.skip ?_
        refine At.blocknormal ?_
        refine At.then_ ?_
        refine WC.region ?_
        refine WL.p Q0 (Yl.add Q0 Q0 Q7) ?_
        refine Qm ?_
        refine WL.nil ?_
        refine At.roundC (k + 1) (hs.only Q2) ⟨by rfl, by rfl, by rfl, by rfl, by rfl, by rfl, by rfl, by rfl, by rfl, by rfl, by rfl, by rfl, by rfl, by rfl, by rfl, by rfl, by rfl, by rfl, trivial⟩ ⟨by rfl, trivial⟩ ?_ ?_
        ·
         omega
        ·
         trivial
      ·
       refine WQ.skip (d := 96) Q0 Q0 Q0 Q0 ?_
       refine WQ.skip (d := 96) Q0 Q0 Q0 Q0 ?_
       refine WQ.skip (d := 96) Q0 Q0 Q0 Q0 ?_
       refine WQ.skip (d := 96) Q0 Q0 Q0 Q0 ?_
       refine WQ.p Q0 (fun w hs => Yl.pickF Q0 Q0) ?_
       refine WQ.p Q0 (fun w hs => Yl.neb bool4 Q0 Q0) ?_
       refine WQ.next ?_
       clear hs; intro w hs
       refine WC.condS Q0 (fun h5 => ?_) (fun h5 => ?_)
       ·
        replace h5 := not_eq_true h5
        replace h5 := beq_false h5
        exfalso
        (try clear join); (try clear ha); (try clear hs)
        simp_all [narrow_allows]
       ·
        replace h5 := not_eq_false h5
        replace h5 := beq_true h5
        refine WC.skip ?_
        refine At.blocknormal ?_
        refine At.then_ ?_
        refine WC.region ?_
        refine WL.p Q0 (Yl.add Q0 Q0 Q7) ?_
        refine Qm ?_
        refine WL.nil ?_
        refine At.roundC (k + 1) (hs.only Q2) ⟨by rfl, by rfl, by rfl, by rfl, by rfl, by rfl, by rfl, by rfl, by rfl, by rfl, by rfl, by rfl, by rfl, by rfl, by rfl, by rfl, by rfl, by rfl, trivial⟩ ⟨by rfl, trivial⟩ ?_ ?_
        ·
         omega
        ·
         trivial
     ·
      replace h3 := of_decide_eq_false h3
      refine WC.exit ?_
      refine At.thenexit ?_
      refine At.thenexit ?_
      refine At.blockexit ?_
      refine At.blocknormal ?_
      refine At.then_ ?_
      refine WC.region ?_
      refine Qm ?_
      refine WL.p Q0 (Yl.add Q0 Q0 Q7) ?_
      refine Qa ?_
      refine WL.nil ?_
      refine At.roundC (m + 1) (hs.only Q2) ⟨by rfl, by rfl, by rfl, by rfl, by rfl, by rfl, by rfl, by rfl, by rfl, by rfl, by rfl, by rfl, by rfl, by rfl, trivial⟩ ⟨by rfl, trivial⟩ ?_ ?_
      ·
       omega
      ·
       omega
    ·
     replace h2 := of_decide_eq_false h2
     refine WC.exit ?_
     refine At.thenexit ?_
     refine At.thenexit ?_
     refine At.blockexit ?_
     refine At.then_ ?_
     refine WC.quietn mixed Q6 hs ?_
     refine WQ.p Q0 (fun w hs => Yl.loadAB agg26 Q0 hs Q1 Q0 Q0) ?_
     refine WQ.callp Q0 (fun w => Yc.func Q0 fn19) (fun w hs => (c_impl_AllowsInline _ _ _ (hs.okow (x := x13) (F := F13) Q1))) (fun _ _ hs hb => hs.ext hb) ?_
     refine WQ.p Q0 (fun w hs => Yl.loadAB agg26 Q0 hs Q1 Q0 Q0) ?_
     refine WQ.callp Q0 (fun w => Yc.func Q0 fn19) (fun w hs => (c_impl_AllowsInline _ _ _ (hs.okow (x := x10_a) (F := F10) Q1))) (fun _ _ hs hb => hs.ext hb) ?_
     refine WQ.p Q0 (fun w hs => Yl.move Q0) ?_
     refine WQ.split (d := 108) Q0 (fun h3 => ?_) (fun h3 => ?_)
     ·
      refine WQ.run (d := 108) Q0 Q0 ?_
      refine WQ.p Q0 (fun w hs => Yl.loadAB agg26 Q0 hs Q1 Q0 Q0) ?_
      refine WQ.run (d := 108) Q0 Q0 ?_
      refine WQ.callp Q0 (fun w => Yc.func Q0 fn19) (fun w hs => (c_impl_AllowsInline _ _ _ (hs.okow (x := x10_b) (F := F10_2) Q1))) (fun _ _ hs hb => hs.ext hb) ?_
      refine WQ.p Q0 (fun w hs => Yl.pickT Q0 Q0) ?_
      refine WQ.p Q0 (fun w hs => Yl.eqb bool4 Q0 Q0) ?_
      refine WQ.p Q0 (fun w hs => Yl.assign Q0) ?_
      refine WQ.next ?_
      clear hs; intro w hs
      refine WC.ret ?_
      refine fin1' rfl Q0 ?_
      refine RetP.mk hs ?_
      first
       | rfl
       | (clear hs; simp_all [narrow_inl])
     ·
      refine WQ.skip (d := 108) Q0 Q0 Q0 Q0 ?_
      refine WQ.skip (d := 108) Q0 Q0 Q0 Q0 ?_
      refine WQ.p Q0 (fun w hs => Yl.pickF Q0 Q0) ?_
      refine WQ.p Q0 (fun w hs => Yl.eqb bool4 Q0 Q0) ?_
      refine WQ.p Q0 (fun w hs => Yl.assign Q0) ?_
      refine WQ.next ?_
      clear hs; intro w hs
      refine WC.ret ?_
      refine fin1' rfl Q0 ?_
      refine RetP.mk hs ?_
      first
       | rfl
       | (clear hs; simp_all [narrow_inl])

end Go.Sw
