/- Walks: what each function of the program returns, for every input. Printed by gen.py. -/
import Derived.Test.YtbbcmlpmpgjhlaaDoorW0
set_option linter.all false
namespace Go.Sw
open Go Go.RowKit Go.Proofs

theorem c_spec_ParsePolicy (s : Str) (w : World)  (hb : s.length ≤ 1048576) : Calls Tryd.prog 15 [S s].toArray w (Ret w (fun v w' => ∃ x : PPolicy, v = .tuple #[.agg (Ph.enc x).toArray, Bo (policyIs s)] ∧ x.lg = policyOf s ∧ Fresh w x w')) := by
 refine enterN 52 Tryd.func15 rfl rfl rfl ?_
 have hs := Sat.start w
 refine WC.seq ?_
 refine WL.r Q0 (Yr.alloc hs zt26) ?_
 clear hs; rintro _ w ⟨b1, rfl, hb, hs⟩; clear hb
 refine Qa ?_
 refine WL.next ?_
 refine WC.seq' ?_
 refine WC.seq ?_
 refine Qm ?_
 refine WL.p Q0 (Yl.eqs Q0 Q0) ?_
 refine WL.next ?_
 refine WC.condS Q0 (fun h1 => ?_) (fun h1 => ?_)
 ·
  replace h1 := of_decide_eq_true h1
  refine WC.seq ?_
  refine WL.p Q0 (Yl.build bt26 Q0 Q4) ?_
  refine WL.s (Yr.storeB hs Q0 Q0 Q0 Q5 Q3 Q0 (by exact szf26)) ?_
  clear hs; rintro _ w hs
  refine Qa ?_
  refine WL.next ?_
  refine WC.ret ?_
  refine At.thenret ?_
  refine fin2c rfl agg26 Q0 Q0 hs Q1 Q0 ?_
  refine Ret.mk hs ?_
  have hb9 : policyIs s = true := policyIs_nil h1
  exact ⟨⟨false, ⟨[], none, 0⟩, ⟨[], none, 0⟩, ⟨[], none, 0⟩, []⟩, by rw [hb9]; rfl, (policyOf_no (.inl h1)).symm, ⟨⟨[], PPolicy.zown _, .nil, fun b h => by cases h⟩⟩⟩
 ·
  replace h1 := of_decide_eq_false h1
  refine WC.skipn ?_
  refine WC.seq ?_
  refine Qm ?_
  refine WL.call hs Q0 (Yc.func Q0 fn64) (c_spec_l5Split _ 59 _ Q10) ?_
  have hs0 := hs; clear hs; intro v w hb hR hs; clear hs
  obtain ⟨x2, rfl, hx2, hf2⟩ := hR
  obtain ⟨F2, hs⟩ := hf2.sat hs0 hb; clear hs0 hf2
  have hle2 := Sl.Ok.le (hs.okow (x := x2) (F := F2) Q1)
  refine Qa ?_
  refine WL.next ?_
  refine WC.seq' ?_
  refine WC.seq ?_
  refine Qm ?_
  refine WL.p Q0 (Yl.len_sl slu24 Q0) ?_
  refine WL.p Q0 (Yl.lss Q0 Q0) ?_
  refine WL.next ?_
  refine WC.condS Q0 (fun h2 => ?_) (fun h2 => ?_)
  ·
   replace h2 := of_decide_eq_true h2
   refine WC.seq ?_
   refine WL.p Q0 (Yl.build bt26 Q0 Q4) ?_
   refine WL.s (Yr.storeB hs Q0 Q0 Q0 Q5 Q3 Q0 (by exact szf26)) ?_
   clear hs; rintro _ w hs
   refine Qa ?_
   refine WL.next ?_
   refine WC.ret ?_
   refine At.thenret ?_
   refine fin2c rfl agg26 Q0 Q0 hs Q1 Q0 ?_
   refine Ret.mk hs ?_
   have hb9 : policyIs s = false := policyIs_short h1 (by rw [← show x2.l = splitC 59 s from hx2]; omega)
   exact ⟨⟨false, ⟨[], none, 0⟩, ⟨[], none, 0⟩, ⟨[], none, 0⟩, []⟩, by rw [hb9]; rfl, (policyOf_no (.inr hb9)).symm, ⟨⟨[], PPolicy.zown _, .nil, fun b h => by cases h⟩⟩⟩
  ·
   replace h2 := of_decide_eq_false h2
   have h39 := getD_len (s := s) (i := 3)
   rw [← show x2.l = splitC 59 s from hx2] at h39
   refine WC.skipn ?_
   refine WC.anyn mixed hs ?_
   clear hs; intro w hs
   refine WA.p (i := 0) Q0 Q6 Q6 Q6 Q0 (hs.only Q2) (fun w hs => Yl.move Q0) ?_
   refine WA.p (i := 1) Q0 Q6 Q6 Q6 Q0 (hs.only Q2) (fun w hs => Yl.indexAddr (k := 0) slt24 Q0 Q0 (hs.okow (x := x2) (F := F2) Q1) Q0 ((getD_some (i := 0) (z := ([] : Str)) Q7))) ?_
   refine WA.p (i := 2) Q0 Q6 Q6 Q6 Q0 (hs.only Q2) (fun w hs => Yl.loadC0 sca9 Q0 (Sl.Ok.at_ (hs.okow (x := x2) (F := F2) Q1) ((getD_some (i := 0) (z := ([] : Str)) Q7))).2 Q0) ?_
   refine WA.p (i := 5) Q0 Q6 Q6 Q6 Q0 (hs.only Q2) (fun w hs => Yl.move Q0) ?_
   refine WA.p (i := 6) Q0 Q6 Q6 Q6 Q0 (hs.only Q2) (fun w hs => Yl.indexAddr (k := 1) slt24 Q0 Q0 (hs.okow (x := x2) (F := F2) Q1) Q0 ((getD_some (i := 1) (z := ([] : Str)) Q7))) ?_
   refine WA.p (i := 7) Q0 Q6 Q6 Q6 Q0 (hs.only Q2) (fun w hs => Yl.loadC0 sca9 Q0 (Sl.Ok.at_ (hs.okow (x := x2) (F := F2) Q1) ((getD_some (i := 1) (z := ([] : Str)) Q7))).2 Q0) ?_
   refine WA.p (i := 10) Q0 Q6 Q6 Q6 Q0 (hs.only Q2) (fun w hs => Yl.move Q0) ?_
   refine WA.p (i := 11) Q0 Q6 Q6 Q6 Q0 (hs.only Q2) (fun w hs => Yl.indexAddr (k := 2) slt24 Q0 Q0 (hs.okow (x := x2) (F := F2) Q1) Q0 ((getD_some (i := 2) (z := ([] : Str)) Q7))) ?_
   refine WA.p (i := 12) Q0 Q6 Q6 Q6 Q0 (hs.only Q2) (fun w hs => Yl.loadC0 sca9 Q0 (Sl.Ok.at_ (hs.okow (x := x2) (F := F2) Q1) ((getD_some (i := 2) (z := ([] : Str)) Q7))).2 Q0) ?_
   refine WA.two (i := 3) (j := 16) Q6 ?_ ?_
   ·
    refine WI.call2 (i := 3) hs (fun _ hs => hs.only Q2) Q0 Q0 (Yc.func Q0 fn64) (c_spec_l5Split _ 32 _ (by first | (have := getD_len (s := s) (i := 0); rw [← show x2.l = splitC 59 s from hx2] at this; omega) | (have := getD_len (s := s) (i := 1); rw [← show x2.l = splitC 59 s from hx2] at this; omega) | (have := getD_len (s := s) (i := 2); rw [← show x2.l = splitC 59 s from hx2] at this; omega) | (have := getD_len (s := s) (i := 3); rw [← show x2.l = splitC 59 s from hx2] at this; omega))) ?_
    have hs0 := hs; clear hs; intro v w hb hR hs; clear hs
    obtain ⟨x3, rfl, hx3, hf3⟩ := hR
    obtain ⟨F3, hs⟩ := hf3.sat hs0 hb; clear hs0 hf3
    have hle3 := Sl.Ok.le (hs.okow (x := x3) (F := F3) Q1)
    refine WA.p (i := 4) Q0 Q6 Q6 Q6 Q0 (hs.only Q2) (fun w hs => Yl.slice_sl (s := x3) (l := 1) (h := x3.l.length) slt24 Q0 hle3 (by exact ⟨_, by rfl⟩) (by exact rfl) (by rw [hx3]; exact List.length_pos_iff.2 (splitC_ne _ _)) (by exact Nat.le_refl _)) ?_
    refine WA.two (i := 8) (j := 16) Q6 ?_ ?_
    ·
     refine WI.call2 (i := 8) hs (fun _ hs => hs.only Q2) Q0 Q0 (Yc.func Q0 fn64) (c_spec_l5Split _ 32 _ (by first | (have := getD_len (s := s) (i := 0); rw [← show x2.l = splitC 59 s from hx2] at this; omega) | (have := getD_len (s := s) (i := 1); rw [← show x2.l = splitC 59 s from hx2] at this; omega) | (have := getD_len (s := s) (i := 2); rw [← show x2.l = splitC 59 s from hx2] at this; omega) | (have := getD_len (s := s) (i := 3); rw [← show x2.l = splitC 59 s from hx2] at this; omega))) ?_
     have hs0 := hs; clear hs; intro v w hb hR hs; clear hs
     obtain ⟨x4, rfl, hx4, hf4⟩ := hR
     obtain ⟨F4, hs⟩ := hf4.sat hs0 hb; clear hs0 hf4
     have hle4 := Sl.Ok.le (hs.okow (x := x4) (F := F4) Q1)
     refine WA.p (i := 9) Q0 Q6 Q6 Q6 Q0 (hs.only Q2) (fun w hs => Yl.slice_sl (s := x4) (l := 1) (h := x4.l.length) slt24 Q0 hle4 (by exact ⟨_, by rfl⟩) (by exact rfl) (by rw [hx4]; exact List.length_pos_iff.2 (splitC_ne _ _)) (by exact Nat.le_refl _)) ?_
     refine WA.two (i := 13) (j := 16) Q6 ?_ ?_
     ·
      refine WI.call2 (i := 13) hs (fun _ hs => hs.only Q2) Q0 Q0 (Yc.func Q0 fn64) (c_spec_l5Split _ 32 _ (by first | (have := getD_len (s := s) (i := 0); rw [← show x2.l = splitC 59 s from hx2] at this; omega) | (have := getD_len (s := s) (i := 1); rw [← show x2.l = splitC 59 s from hx2] at this; omega) | (have := getD_len (s := s) (i := 2); rw [← show x2.l = splitC 59 s from hx2] at this; omega) | (have := getD_len (s := s) (i := 3); rw [← show x2.l = splitC 59 s from hx2] at this; omega))) ?_
      have hs0 := hs; clear hs; intro v w hb hR hs; clear hs
      obtain ⟨x5, rfl, hx5, hf5⟩ := hR
      obtain ⟨F5, hs⟩ := hf5.sat hs0 hb; clear hs0 hf5
      have hle5 := Sl.Ok.le (hs.okow (x := x5) (F := F5) Q1)
      refine WA.p (i := 14) Q0 Q6 Q6 Q6 Q0 (hs.only Q2) (fun w hs => Yl.slice_sl (s := x5) (l := 1) (h := x5.l.length) slt24 Q0 hle5 (by exact ⟨_, by rfl⟩) (by exact rfl) (by rw [hx5]; exact List.length_pos_iff.2 (splitC_ne _ _)) (by exact Nat.le_refl _)) ?_
      refine WA.p (i := 15) Q0 Q6 Q6 Q6 Q0 (hs.only Q2) (fun w hs => Yl.build bt26 Q0 Q4) ?_
      refine WA.r (i := 16) Q6 Q0 Q0 (Yr.alloc hs zt26) (by rintro _ w ⟨b6, rfl, hb, hs⟩; exact hs.only Q2) ?_
      clear hs; rintro _ w ⟨b6, rfl, hb, hs⟩; clear hb
      refine WA.s (i := 17) Q6 Q0 (Yr.storeB hs Q0 Q0 Q0 Q5 Q3 Q0 (by exact szf26)) (by rintro _ w hs; exact hs.only Q2) ?_
      clear hs; rintro _ w hs
      refine WA.donen Q6 ?_
      refine WC.seq' ?_
      refine WC.seq ?_
      refine Qm ?_
      refine WL.p Q0 (Yl.len_sl slu24 Q0) ?_
      refine WL.p Q0 (Yl.gtr Q0 Q0) ?_
      refine Qm ?_
      refine WL.split (d := 34) Q0 (fun h3 => ?_) (fun h3 => ?_)
      ·
       replace h3 := of_decide_eq_true h3
       refine WL.run (d := 34) Q0 Q0 ?_
       refine Qm ?_
       refine WL.run (d := 34) Q0 Q0 ?_
       refine WL.p Q0 (Yl.indexAddr (k := 3) slt24 Q0 Q0 (hs.okow (x := x2) (F := F2) Q1) Q0 ((getD_some (i := 3) (z := ([] : Str)) Q7))) ?_
       refine WL.run (d := 34) Q0 Q0 ?_
       refine WL.p Q0 (Yl.loadC0 sca9 Q0 (Sl.Ok.at_ (hs.okow (x := x2) (F := F2) Q1) ((getD_some (i := 3) (z := ([] : Str)) Q7))).2 Q0) ?_
       refine WL.run (d := 34) Q0 Q0 ?_
       refine WL.p Q0 (Yl.len_str str9 Q0) ?_
       refine WL.run (d := 34) Q0 Q0 ?_
       refine WL.p Q0 (Yl.gtr Q0 Q0) ?_
       refine WL.p Q0 (Yl.pickT Q0 Q0) ?_
       refine WL.next ?_
       refine WC.condS Q0 (fun h4 => ?_) (fun h4 => ?_)
       ·
        replace h4 := of_decide_eq_true h4
        refine WC.region ?_
        refine Qm ?_
        refine WL.p Q0 (Yl.indexAddr (k := 3) slt24 Q0 Q0 (hs.okow (x := x2) (F := F2) Q1) Q0 ((getD_some (i := 3) (z := ([] : Str)) Q7))) ?_
        refine WL.p Q0 (Yl.loadC0 sca9 Q0 (Sl.Ok.at_ (hs.okow (x := x2) (F := F2) Q1) ((getD_some (i := 3) (z := ([] : Str)) Q7))).2 Q0) ?_
        refine WL.p Q0 (Yl.slice_str (l := 6) str9 Q0 (by exact ⟨_, by rfl⟩) (by exact rfl) Q7 Q7) ?_
        refine WL.p Q0 (Yl.fieldAddr fa26_4 Q0) ?_
        refine WL.s (Yr.storeB hs Q0 Q0 Q0 Q5 Q3 Q0 (by exact szf9)) ?_
        clear hs; rintro _ w hs
        refine WL.nil ?_
        refine At.then_ ?_
        refine WC.seq' ?_
        refine WC.seq ?_
        refine WL.p Q0 (Yl.loadAB agg26 Q0 hs Q1 Q0 Q0) ?_
        have hpl9 : PPolicy.lg (⟨true, (x3.cut 1 x3.l.length), (x4.cut 1 x4.l.length), (x5.cut 1 x5.l.length), (((x2.l.getD 3 []).drop 6).take ((x2.l.getD 3 []).length - 6))⟩ : PPolicy) = polS s := by
         have e2 : x2.l = splitC 59 s := hx2
         have g0 : x3.l = splitC 32 ((splitC 59 s).getD 0 []) := by rw [← e2]; exact hx3
         have g1 : x4.l = splitC 32 ((splitC 59 s).getD 1 []) := by rw [← e2]; exact hx4
         have g2 : x5.l = splitC 32 ((splitC 59 s).getD 2 []) := by rw [← e2]; exact hx5
         have c0 : (x3.cut 1 x3.l.length).l = (splitC 32 ((splitC 59 s).getD 0 [])).tail := by rw [Sl.cut_full, g0, List.drop_one]
         have c1 : (x4.cut 1 x4.l.length).l = (splitC 32 ((splitC 59 s).getD 1 [])).tail := by rw [Sl.cut_full, g1, List.drop_one]
         have c2 : (x5.cut 1 x5.l.length).l = (splitC 32 ((splitC 59 s).getD 2 [])).tail := by rw [Sl.cut_full, g2, List.drop_one]
         simp only [PPolicy.lg, polS, polOf, c0, c1, c2, TPolicy.mk.injEq, true_and]
         rw [← e2]
         first
          | (rw [if_neg (show ¬ 3 < x2.l.length from fun h => by omega)]; done)
          | (rw [if_pos (show 3 < x2.l.length from Int.ofNat_lt.1 Q7)]; done)
          | (rw [if_pos (show 3 < x2.l.length from Int.ofNat_lt.1 Q7)]
             simp only [nonceS, nonceI]
             first
               | (rfl; done)
               | (rw [if_neg Q7]; done)
               | (rw [if_pos Q7, List.take_of_length_le (by simp)]; done)
               | (rw [if_pos Q7]; done))
        refine WL.callp hs Q0 (Yc.func Q0 fn62) (c_spec_FormatPolicy (⟨true, (x3.cut 1 x3.l.length), (x4.cut 1 x4.l.length), (x5.cut 1 x5.l.length), (((x2.l.getD 3 []).drop 6).take ((x2.l.getD 3 []).length - 6))⟩ : PPolicy) _ ⟨trivial, (Sl.Ok.cut (hs.okow (x := x3) (F := F3) Q1) (by rw [hx3]; exact List.length_pos_iff.2 (splitC_ne _ _)) (by exact Nat.le_refl _)), (Sl.Ok.cut (hs.okow (x := x4) (F := F4) Q1) (by rw [hx4]; exact List.length_pos_iff.2 (splitC_ne _ _)) (by exact Nat.le_refl _)), (Sl.Ok.cut (hs.okow (x := x5) (F := F5) Q1) (by rw [hx5]; exact List.length_pos_iff.2 (splitC_ne _ _)) (by exact Nat.le_refl _)), (by show WfS _; unfold WfS; simp only [List.length_take, List.length_drop]; omega)⟩ (by rw [hpl9]; have := polS_size (s := s) (by rw [← show x2.l = splitC 59 s from hx2]; omega); omega)) ?_
        clear hs; intro w hs
        refine Qm ?_
        refine WL.p Q0 (Yl.nes Q0 Q0) ?_
        refine WL.next ?_
        refine WC.condS Q0 (fun h5 => ?_) (fun h5 => ?_)
        ·
         replace h5 := not_eq_true h5
         replace h5 := of_decide_eq_false h5
         refine WC.seq ?_
         refine WL.p Q0 (Yl.build bt26 Q0 Q4) ?_
         refine WL.s (Yr.storeB hs Q0 Q0 Q0 Q5 Q3 Q0 (by exact szf26)) ?_
         clear hs; rintro _ w hs
         refine Qa ?_
         refine WL.next ?_
         refine WC.ret ?_
         refine At.thenret ?_
         refine fin2c rfl agg26 Q0 Q0 hs Q1 Q0 ?_
         refine Ret.mk hs ?_
         rw [hpl9] at h5
         have hb9 : policyIs s = false := policyIs_bad h1 h5
         exact ⟨⟨false, ⟨[], none, 0⟩, ⟨[], none, 0⟩, ⟨[], none, 0⟩, []⟩, by rw [hb9]; rfl, (policyOf_no (.inr hb9)).symm, ⟨⟨[], PPolicy.zown _, .nil, fun b h => by cases h⟩⟩⟩
        ·
         replace h5 := not_eq_false h5
         replace h5 := of_decide_eq_true h5
         refine WC.skipn ?_
         refine WC.seq ?_
         refine WL.p Q0 (Yl.loadAB agg26 Q0 hs Q1 Q0 Q0) ?_
         refine WL.s (Yr.storeB hs Q0 Q0 Q0 Q5 Q3 Q0 (by exact szf26)) ?_
         clear hs; rintro _ w hs
         refine Qa ?_
         refine WL.next ?_
         refine WC.ret ?_
         refine fin2c rfl agg26 Q0 Q0 hs Q1 Q0 ?_
         refine Ret.mk hs ?_
         rw [hpl9] at h5
         have hq9 : x2.l = splitC 59 s := hx2
         have h49 : 3 ≤ (splitC 59 s).length := by rw [← hq9]; omega
         have hb9 : policyIs s = true := policyIs_good h5 h49
         obtain ⟨G90, hs⟩ := Sat.cutow (lo := 1) (hi := x3.l.length) (hs.sel (D := [ow x3 F3]) Q2) (by rw [hx3]; exact List.length_pos_iff.2 (splitC_ne _ _)) (Nat.le_refl _)
         obtain ⟨G91, hs⟩ := Sat.cutow (lo := 1) (hi := x4.l.length) (hs.sel (D := [ow x4 F4]) Q2) (by rw [hx4]; exact List.length_pos_iff.2 (splitC_ne _ _)) (Nat.le_refl _)
         obtain ⟨G92, hs⟩ := Sat.cutow (lo := 1) (hi := x5.l.length) (hs.sel (D := [ow x5 F5]) Q2) (by rw [hx5]; exact List.length_pos_iff.2 (splitC_ne _ _)) (Nat.le_refl _)
         refine ⟨(⟨true, (x3.cut 1 x3.l.length), (x4.cut 1 x4.l.length), (x5.cut 1 x5.l.length), (((x2.l.getD 3 []).drop 6).take ((x2.l.getD 3 []).length - 6))⟩ : PPolicy), by rw [hb9]; rfl, hpl9.trans (policyOf_good h1 hb9).symm, ?_⟩
         exact (PPolicy.join _ (hs.only (D := [ow (x3.cut 1 x3.l.length) G90, ow (x4.cut 1 x4.l.length) G91, ow (x5.cut 1 x5.l.length) G92]) Q2) trivial (by show WfS _; unfold WfS; first | (simp only [List.length_take, List.length_drop]; omega) | simp)).fresh List.mem_cons_self
       ·
        replace h4 := of_decide_eq_false h4
        refine WC.skipn ?_
        refine WC.seq' ?_
        refine WC.seq ?_
        refine WL.p Q0 (Yl.loadAB agg26 Q0 hs Q1 Q0 Q0) ?_
        have hpl9 : PPolicy.lg (⟨true, (x3.cut 1 x3.l.length), (x4.cut 1 x4.l.length), (x5.cut 1 x5.l.length), ([] : Str)⟩ : PPolicy) = polS s := by
         have e2 : x2.l = splitC 59 s := hx2
         have g0 : x3.l = splitC 32 ((splitC 59 s).getD 0 []) := by rw [← e2]; exact hx3
         have g1 : x4.l = splitC 32 ((splitC 59 s).getD 1 []) := by rw [← e2]; exact hx4
         have g2 : x5.l = splitC 32 ((splitC 59 s).getD 2 []) := by rw [← e2]; exact hx5
         have c0 : (x3.cut 1 x3.l.length).l = (splitC 32 ((splitC 59 s).getD 0 [])).tail := by rw [Sl.cut_full, g0, List.drop_one]
         have c1 : (x4.cut 1 x4.l.length).l = (splitC 32 ((splitC 59 s).getD 1 [])).tail := by rw [Sl.cut_full, g1, List.drop_one]
         have c2 : (x5.cut 1 x5.l.length).l = (splitC 32 ((splitC 59 s).getD 2 [])).tail := by rw [Sl.cut_full, g2, List.drop_one]
         simp only [PPolicy.lg, polS, polOf, c0, c1, c2, TPolicy.mk.injEq, true_and]
         rw [← e2]
         first
          | (rw [if_neg (show ¬ 3 < x2.l.length from fun h => by omega)]; done)
          | (rw [if_pos (show 3 < x2.l.length from Int.ofNat_lt.1 Q7)]; done)
          | (rw [if_pos (show 3 < x2.l.length from Int.ofNat_lt.1 Q7)]
             simp only [nonceS, nonceI]
             first
               | (rfl; done)
               | (rw [if_neg Q7]; done)
               | (rw [if_pos Q7, List.take_of_length_le (by simp)]; done)
               | (rw [if_pos Q7]; done))
        refine WL.callp hs Q0 (Yc.func Q0 fn62) (c_spec_FormatPolicy (⟨true, (x3.cut 1 x3.l.length), (x4.cut 1 x4.l.length), (x5.cut 1 x5.l.length), ([] : Str)⟩ : PPolicy) _ ⟨trivial, (Sl.Ok.cut (hs.okow (x := x3) (F := F3) Q1) (by rw [hx3]; exact List.length_pos_iff.2 (splitC_ne _ _)) (by exact Nat.le_refl _)), (Sl.Ok.cut (hs.okow (x := x4) (F := F4) Q1) (by rw [hx4]; exact List.length_pos_iff.2 (splitC_ne _ _)) (by exact Nat.le_refl _)), (Sl.Ok.cut (hs.okow (x := x5) (F := F5) Q1) (by rw [hx5]; exact List.length_pos_iff.2 (splitC_ne _ _)) (by exact Nat.le_refl _)), (show WfS [] from Nat.zero_le _)⟩ (by rw [hpl9]; have := polS_size (s := s) (by rw [← show x2.l = splitC 59 s from hx2]; omega); omega)) ?_
        clear hs; intro w hs
        refine Qm ?_
        refine WL.p Q0 (Yl.nes Q0 Q0) ?_
        refine WL.next ?_
        refine WC.condS Q0 (fun h5 => ?_) (fun h5 => ?_)
        ·
         replace h5 := not_eq_true h5
         replace h5 := of_decide_eq_false h5
         refine WC.seq ?_
         refine WL.p Q0 (Yl.build bt26 Q0 Q4) ?_
         refine WL.s (Yr.storeB hs Q0 Q0 Q0 Q5 Q3 Q0 (by exact szf26)) ?_
         clear hs; rintro _ w hs
         refine Qa ?_
         refine WL.next ?_
         refine WC.ret ?_
         refine At.thenret ?_
         refine fin2c rfl agg26 Q0 Q0 hs Q1 Q0 ?_
         refine Ret.mk hs ?_
         rw [hpl9] at h5
         have hb9 : policyIs s = false := policyIs_bad h1 h5
         exact ⟨⟨false, ⟨[], none, 0⟩, ⟨[], none, 0⟩, ⟨[], none, 0⟩, []⟩, by rw [hb9]; rfl, (policyOf_no (.inr hb9)).symm, ⟨⟨[], PPolicy.zown _, .nil, fun b h => by cases h⟩⟩⟩
        ·
         replace h5 := not_eq_false h5
         replace h5 := of_decide_eq_true h5
         refine WC.skipn ?_
         refine WC.seq ?_
         refine WL.p Q0 (Yl.loadAB agg26 Q0 hs Q1 Q0 Q0) ?_
         refine WL.s (Yr.storeB hs Q0 Q0 Q0 Q5 Q3 Q0 (by exact szf26)) ?_
         clear hs; rintro _ w hs
         refine Qa ?_
         refine WL.next ?_
         refine WC.ret ?_
         refine fin2c rfl agg26 Q0 Q0 hs Q1 Q0 ?_
         refine Ret.mk hs ?_
         rw [hpl9] at h5
         have hq9 : x2.l = splitC 59 s := hx2
         have h49 : 3 ≤ (splitC 59 s).length := by rw [← hq9]; omega
         have hb9 : policyIs s = true := policyIs_good h5 h49
         obtain ⟨G90, hs⟩ := Sat.cutow (lo := 1) (hi := x3.l.length) (hs.sel (D := [ow x3 F3]) Q2) (by rw [hx3]; exact List.length_pos_iff.2 (splitC_ne _ _)) (Nat.le_refl _)
         obtain ⟨G91, hs⟩ := Sat.cutow (lo := 1) (hi := x4.l.length) (hs.sel (D := [ow x4 F4]) Q2) (by rw [hx4]; exact List.length_pos_iff.2 (splitC_ne _ _)) (Nat.le_refl _)
         obtain ⟨G92, hs⟩ := Sat.cutow (lo := 1) (hi := x5.l.length) (hs.sel (D := [ow x5 F5]) Q2) (by rw [hx5]; exact List.length_pos_iff.2 (splitC_ne _ _)) (Nat.le_refl _)
         refine ⟨(⟨true, (x3.cut 1 x3.l.length), (x4.cut 1 x4.l.length), (x5.cut 1 x5.l.length), ([] : Str)⟩ : PPolicy), by rw [hb9]; rfl, hpl9.trans (policyOf_good h1 hb9).symm, ?_⟩
         exact (PPolicy.join _ (hs.only (D := [ow (x3.cut 1 x3.l.length) G90, ow (x4.cut 1 x4.l.length) G91, ow (x5.cut 1 x5.l.length) G92]) Q2) trivial (by show WfS _; unfold WfS; first | (simp only [List.length_take, List.length_drop]; omega) | simp)).fresh List.mem_cons_self
      ·
       replace h3 := of_decide_eq_false h3
       refine WL.skip (d := 34) Q0 Q0 Q0 Q0 ?_
       refine WL.skip (d := 34) Q0 Q0 Q0 Q0 ?_
       refine WL.skip (d := 34) Q0 Q0 Q0 Q0 ?_
       refine WL.skip (d := 34) Q0 Q0 Q0 Q0 ?_
       refine WL.skip (d := 34) Q0 Q0 Q0 Q0 ?_
       refine WL.p Q0 (Yl.pickF Q0 Q0) ?_
       refine WL.next ?_
       refine WC.condF Q0 ?_
       refine WC.skipn ?_
       refine WC.seq' ?_
       refine WC.seq ?_
       refine WL.p Q0 (Yl.loadAB agg26 Q0 hs Q1 Q0 Q0) ?_
       have hpl9 : PPolicy.lg (⟨true, (x3.cut 1 x3.l.length), (x4.cut 1 x4.l.length), (x5.cut 1 x5.l.length), ([] : Str)⟩ : PPolicy) = polS s := by
        have e2 : x2.l = splitC 59 s := hx2
        have g0 : x3.l = splitC 32 ((splitC 59 s).getD 0 []) := by rw [← e2]; exact hx3
        have g1 : x4.l = splitC 32 ((splitC 59 s).getD 1 []) := by rw [← e2]; exact hx4
        have g2 : x5.l = splitC 32 ((splitC 59 s).getD 2 []) := by rw [← e2]; exact hx5
        have c0 : (x3.cut 1 x3.l.length).l = (splitC 32 ((splitC 59 s).getD 0 [])).tail := by rw [Sl.cut_full, g0, List.drop_one]
        have c1 : (x4.cut 1 x4.l.length).l = (splitC 32 ((splitC 59 s).getD 1 [])).tail := by rw [Sl.cut_full, g1, List.drop_one]
        have c2 : (x5.cut 1 x5.l.length).l = (splitC 32 ((splitC 59 s).getD 2 [])).tail := by rw [Sl.cut_full, g2, List.drop_one]
        simp only [PPolicy.lg, polS, polOf, c0, c1, c2, TPolicy.mk.injEq, true_and]
        rw [← e2]
        first
         | (rw [if_neg (show ¬ 3 < x2.l.length from fun h => by omega)]; done)
         | (rw [if_pos (show 3 < x2.l.length from Int.ofNat_lt.1 Q7)]; done)
         | (rw [if_pos (show 3 < x2.l.length from Int.ofNat_lt.1 Q7)]
            simp only [nonceS, nonceI]
            first
              | (rfl; done)
              | (rw [if_neg Q7]; done)
              | (rw [if_pos Q7, List.take_of_length_le (by simp)]; done)
              | (rw [if_pos Q7]; done))
       refine WL.callp hs Q0 (Yc.func Q0 fn62) (c_spec_FormatPolicy (⟨true, (x3.cut 1 x3.l.length), (x4.cut 1 x4.l.length), (x5.cut 1 x5.l.length), ([] : Str)⟩ : PPolicy) _ ⟨trivial, (Sl.Ok.cut (hs.okow (x := x3) (F := F3) Q1) (by rw [hx3]; exact List.length_pos_iff.2 (splitC_ne _ _)) (by exact Nat.le_refl _)), (Sl.Ok.cut (hs.okow (x := x4) (F := F4) Q1) (by rw [hx4]; exact List.length_pos_iff.2 (splitC_ne _ _)) (by exact Nat.le_refl _)), (Sl.Ok.cut (hs.okow (x := x5) (F := F5) Q1) (by rw [hx5]; exact List.length_pos_iff.2 (splitC_ne _ _)) (by exact Nat.le_refl _)), (show WfS [] from Nat.zero_le _)⟩ (by rw [hpl9]; have := polS_size (s := s) (by rw [← show x2.l = splitC 59 s from hx2]; omega); omega)) ?_
       clear hs; intro w hs
       refine Qm ?_
       refine WL.p Q0 (Yl.nes Q0 Q0) ?_
       refine WL.next ?_
       refine WC.condS Q0 (fun h4 => ?_) (fun h4 => ?_)
       ·
        replace h4 := not_eq_true h4
        replace h4 := of_decide_eq_false h4
        refine WC.seq ?_
        refine WL.p Q0 (Yl.build bt26 Q0 Q4) ?_
        refine WL.s (Yr.storeB hs Q0 Q0 Q0 Q5 Q3 Q0 (by exact szf26)) ?_
        clear hs; rintro _ w hs
        refine Qa ?_
        refine WL.next ?_
        refine WC.ret ?_
        refine At.thenret ?_
        refine fin2c rfl agg26 Q0 Q0 hs Q1 Q0 ?_
        refine Ret.mk hs ?_
        rw [hpl9] at h4
        have hb9 : policyIs s = false := policyIs_bad h1 h4
        exact ⟨⟨false, ⟨[], none, 0⟩, ⟨[], none, 0⟩, ⟨[], none, 0⟩, []⟩, by rw [hb9]; rfl, (policyOf_no (.inr hb9)).symm, ⟨⟨[], PPolicy.zown _, .nil, fun b h => by cases h⟩⟩⟩
       ·
        replace h4 := not_eq_false h4
        replace h4 := of_decide_eq_true h4
        refine WC.skipn ?_
        refine WC.seq ?_
        refine WL.p Q0 (Yl.loadAB agg26 Q0 hs Q1 Q0 Q0) ?_
        refine WL.s (Yr.storeB hs Q0 Q0 Q0 Q5 Q3 Q0 (by exact szf26)) ?_
        clear hs; rintro _ w hs
        refine Qa ?_
        refine WL.next ?_
        refine WC.ret ?_
        refine fin2c rfl agg26 Q0 Q0 hs Q1 Q0 ?_
        refine Ret.mk hs ?_
        rw [hpl9] at h4
        have hq9 : x2.l = splitC 59 s := hx2
        have h49 : 3 ≤ (splitC 59 s).length := by rw [← hq9]; omega
        have hb9 : policyIs s = true := policyIs_good h4 h49
        obtain ⟨G90, hs⟩ := Sat.cutow (lo := 1) (hi := x3.l.length) (hs.sel (D := [ow x3 F3]) Q2) (by rw [hx3]; exact List.length_pos_iff.2 (splitC_ne _ _)) (Nat.le_refl _)
        obtain ⟨G91, hs⟩ := Sat.cutow (lo := 1) (hi := x4.l.length) (hs.sel (D := [ow x4 F4]) Q2) (by rw [hx4]; exact List.length_pos_iff.2 (splitC_ne _ _)) (Nat.le_refl _)
        obtain ⟨G92, hs⟩ := Sat.cutow (lo := 1) (hi := x5.l.length) (hs.sel (D := [ow x5 F5]) Q2) (by rw [hx5]; exact List.length_pos_iff.2 (splitC_ne _ _)) (Nat.le_refl _)
        refine ⟨(⟨true, (x3.cut 1 x3.l.length), (x4.cut 1 x4.l.length), (x5.cut 1 x5.l.length), ([] : Str)⟩ : PPolicy), by rw [hb9]; rfl, hpl9.trans (policyOf_good h1 hb9).symm, ?_⟩
        exact (PPolicy.join _ (hs.only (D := [ow (x3.cut 1 x3.l.length) G90, ow (x4.cut 1 x4.l.length) G91, ow (x5.cut 1 x5.l.length) G92]) Q2) trivial (by show WfS _; unfold WfS; first | (simp only [List.length_take, List.length_drop]; omega) | simp)).fresh List.mem_cons_self
     ·
      refine WI.r (i := 16) Q0 Q0 (Yr.alloc hs zt26) (by rintro _ w ⟨b7, rfl, hb, hs⟩; exact hs.only Q2) ?_
      clear hs; rintro _ w ⟨b7, rfl, hb, hs⟩; clear hb
      refine WA.call2 (i := 13) hs (fun _ hs => hs.only Q2) Q6 Q0 Q0 (Yc.func Q0 fn64) (c_spec_l5Split _ 32 _ (by first | (have := getD_len (s := s) (i := 0); rw [← show x2.l = splitC 59 s from hx2] at this; omega) | (have := getD_len (s := s) (i := 1); rw [← show x2.l = splitC 59 s from hx2] at this; omega) | (have := getD_len (s := s) (i := 2); rw [← show x2.l = splitC 59 s from hx2] at this; omega) | (have := getD_len (s := s) (i := 3); rw [← show x2.l = splitC 59 s from hx2] at this; omega))) ?_
      have hs0 := hs; clear hs; intro v w hb hR hs; clear hs
      obtain ⟨x8, rfl, hx8, hf8⟩ := hR
      obtain ⟨F8, hs⟩ := hf8.sat hs0 hb; clear hs0 hf8
      have hle8 := Sl.Ok.le (hs.okow (x := x8) (F := F8) Q1)
      refine WA.r (i := 14) Q6 Q0 Q0 (Yl.yr (Yl.slice_sl (s := x8) (l := 1) (h := x8.l.length) slt24 Q0 hle8 (by exact ⟨_, by rfl⟩) (by exact rfl) (by rw [hx8]; exact List.length_pos_iff.2 (splitC_ne _ _)) (by exact Nat.le_refl _))) (by rintro _ _ ⟨rfl, rfl⟩; exact hs.only Q2) ?_
      rintro _ _ ⟨rfl, rfl⟩
      refine WA.p (i := 15) Q0 Q6 Q6 Q6 Q0 (hs.only Q2) (fun w hs => Yl.build bt26 Q0 Q4) ?_
      refine WA.s (i := 17) Q6 Q0 (Yr.storeB hs Q0 Q0 Q0 Q5 Q3 Q0 (by exact szf26)) (by rintro _ w hs; exact hs.only Q2) ?_
      clear hs; rintro _ w hs
      refine WA.donen Q6 ?_
      refine WC.seq' ?_
      refine WC.seq ?_
      refine Qm ?_
      refine WL.p Q0 (Yl.len_sl slu24 Q0) ?_
      refine WL.p Q0 (Yl.gtr Q0 Q0) ?_
      refine Qm ?_
      refine WL.split (d := 34) Q0 (fun h3 => ?_) (fun h3 => ?_)
      ·
       replace h3 := of_decide_eq_true h3
       refine WL.run (d := 34) Q0 Q0 ?_
       refine Qm ?_
       refine WL.run (d := 34) Q0 Q0 ?_
       refine WL.p Q0 (Yl.indexAddr (k := 3) slt24 Q0 Q0 (hs.okow (x := x2) (F := F2) Q1) Q0 ((getD_some (i := 3) (z := ([] : Str)) Q7))) ?_
       refine WL.run (d := 34) Q0 Q0 ?_
       refine WL.p Q0 (Yl.loadC0 sca9 Q0 (Sl.Ok.at_ (hs.okow (x := x2) (F := F2) Q1) ((getD_some (i := 3) (z := ([] : Str)) Q7))).2 Q0) ?_
       refine WL.run (d := 34) Q0 Q0 ?_
       refine WL.p Q0 (Yl.len_str str9 Q0) ?_
       refine WL.run (d := 34) Q0 Q0 ?_
       refine WL.p Q0 (Yl.gtr Q0 Q0) ?_
       refine WL.p Q0 (Yl.pickT Q0 Q0) ?_
       refine WL.next ?_
       refine WC.condS Q0 (fun h4 => ?_) (fun h4 => ?_)
       ·
        replace h4 := of_decide_eq_true h4
        refine WC.region ?_
        refine Qm ?_
        refine WL.p Q0 (Yl.indexAddr (k := 3) slt24 Q0 Q0 (hs.okow (x := x2) (F := F2) Q1) Q0 ((getD_some (i := 3) (z := ([] : Str)) Q7))) ?_
        refine WL.p Q0 (Yl.loadC0 sca9 Q0 (Sl.Ok.at_ (hs.okow (x := x2) (F := F2) Q1) ((getD_some (i := 3) (z := ([] : Str)) Q7))).2 Q0) ?_
        refine WL.p Q0 (Yl.slice_str (l := 6) str9 Q0 (by exact ⟨_, by rfl⟩) (by exact rfl) Q7 Q7) ?_
        refine WL.p Q0 (Yl.fieldAddr fa26_4 Q0) ?_
        refine WL.s (Yr.storeB hs Q0 Q0 Q0 Q5 Q3 Q0 (by exact szf9)) ?_
        clear hs; rintro _ w hs
        refine WL.nil ?_
        refine At.then_ ?_
        refine WC.seq' ?_
        refine WC.seq ?_
        refine WL.p Q0 (Yl.loadAB agg26 Q0 hs Q1 Q0 Q0) ?_
        have hpl9 : PPolicy.lg (⟨true, (x3.cut 1 x3.l.length), (x4.cut 1 x4.l.length), (x8.cut 1 x8.l.length), (((x2.l.getD 3 []).drop 6).take ((x2.l.getD 3 []).length - 6))⟩ : PPolicy) = polS s := by
         have e2 : x2.l = splitC 59 s := hx2
         have g0 : x3.l = splitC 32 ((splitC 59 s).getD 0 []) := by rw [← e2]; exact hx3
         have g1 : x4.l = splitC 32 ((splitC 59 s).getD 1 []) := by rw [← e2]; exact hx4
         have g2 : x8.l = splitC 32 ((splitC 59 s).getD 2 []) := by rw [← e2]; exact hx8
         have c0 : (x3.cut 1 x3.l.length).l = (splitC 32 ((splitC 59 s).getD 0 [])).tail := by rw [Sl.cut_full, g0, List.drop_one]
         have c1 : (x4.cut 1 x4.l.length).l = (splitC 32 ((splitC 59 s).getD 1 [])).tail := by rw [Sl.cut_full, g1, List.drop_one]
         have c2 : (x8.cut 1 x8.l.length).l = (splitC 32 ((splitC 59 s).getD 2 [])).tail := by rw [Sl.cut_full, g2, List.drop_one]
         simp only [PPolicy.lg, polS, polOf, c0, c1, c2, TPolicy.mk.injEq, true_and]
         rw [← e2]
         first
          | (rw [if_neg (show ¬ 3 < x2.l.length from fun h => by omega)]; done)
          | (rw [if_pos (show 3 < x2.l.length from Int.ofNat_lt.1 Q7)]; done)
          | (rw [if_pos (show 3 < x2.l.length from Int.ofNat_lt.1 Q7)]
             simp only [nonceS, nonceI]
             first
               | (rfl; done)
               | (rw [if_neg Q7]; done)
               | (rw [if_pos Q7, List.take_of_length_le (by simp)]; done)
               | (rw [if_pos Q7]; done))
        refine WL.callp hs Q0 (Yc.func Q0 fn62) (c_spec_FormatPolicy (⟨true, (x3.cut 1 x3.l.length), (x4.cut 1 x4.l.length), (x8.cut 1 x8.l.length), (((x2.l.getD 3 []).drop 6).take ((x2.l.getD 3 []).length - 6))⟩ : PPolicy) _ ⟨trivial, (Sl.Ok.cut (hs.okow (x := x3) (F := F3) Q1) (by rw [hx3]; exact List.length_pos_iff.2 (splitC_ne _ _)) (by exact Nat.le_refl _)), (Sl.Ok.cut (hs.okow (x := x4) (F := F4) Q1) (by rw [hx4]; exact List.length_pos_iff.2 (splitC_ne _ _)) (by exact Nat.le_refl _)), (Sl.Ok.cut (hs.okow (x := x8) (F := F8) Q1) (by rw [hx8]; exact List.length_pos_iff.2 (splitC_ne _ _)) (by exact Nat.le_refl _)), (by show WfS _; unfold WfS; simp only [List.length_take, List.length_drop]; omega)⟩ (by rw [hpl9]; have := polS_size (s := s) (by rw [← show x2.l = splitC 59 s from hx2]; omega); omega)) ?_
        clear hs; intro w hs
        refine Qm ?_
        refine WL.p Q0 (Yl.nes Q0 Q0) ?_
        refine WL.next ?_
        refine WC.condS Q0 (fun h5 => ?_) (fun h5 => ?_)
        ·
         replace h5 := not_eq_true h5
         replace h5 := of_decide_eq_false h5
         refine WC.seq ?_
         refine WL.p Q0 (Yl.build bt26 Q0 Q4) ?_
         refine WL.s (Yr.storeB hs Q0 Q0 Q0 Q5 Q3 Q0 (by exact szf26)) ?_
         clear hs; rintro _ w hs
         refine Qa ?_
         refine WL.next ?_
         refine WC.ret ?_
         refine At.thenret ?_
         refine fin2c rfl agg26 Q0 Q0 hs Q1 Q0 ?_
         refine Ret.mk hs ?_
         rw [hpl9] at h5
         have hb9 : policyIs s = false := policyIs_bad h1 h5
         exact ⟨⟨false, ⟨[], none, 0⟩, ⟨[], none, 0⟩, ⟨[], none, 0⟩, []⟩, by rw [hb9]; rfl, (policyOf_no (.inr hb9)).symm, ⟨⟨[], PPolicy.zown _, .nil, fun b h => by cases h⟩⟩⟩
        ·
         replace h5 := not_eq_false h5
         replace h5 := of_decide_eq_true h5
         refine WC.skipn ?_
         refine WC.seq ?_
         refine WL.p Q0 (Yl.loadAB agg26 Q0 hs Q1 Q0 Q0) ?_
         refine WL.s (Yr.storeB hs Q0 Q0 Q0 Q5 Q3 Q0 (by exact szf26)) ?_
         clear hs; rintro _ w hs
         refine Qa ?_
         refine WL.next ?_
         refine WC.ret ?_
         refine fin2c rfl agg26 Q0 Q0 hs Q1 Q0 ?_
         refine Ret.mk hs ?_
         rw [hpl9] at h5
         have hq9 : x2.l = splitC 59 s := hx2
         have h49 : 3 ≤ (splitC 59 s).length := by rw [← hq9]; omega
         have hb9 : policyIs s = true := policyIs_good h5 h49
         obtain ⟨G90, hs⟩ := Sat.cutow (lo := 1) (hi := x3.l.length) (hs.sel (D := [ow x3 F3]) Q2) (by rw [hx3]; exact List.length_pos_iff.2 (splitC_ne _ _)) (Nat.le_refl _)
         obtain ⟨G91, hs⟩ := Sat.cutow (lo := 1) (hi := x4.l.length) (hs.sel (D := [ow x4 F4]) Q2) (by rw [hx4]; exact List.length_pos_iff.2 (splitC_ne _ _)) (Nat.le_refl _)
         obtain ⟨G92, hs⟩ := Sat.cutow (lo := 1) (hi := x8.l.length) (hs.sel (D := [ow x8 F8]) Q2) (by rw [hx8]; exact List.length_pos_iff.2 (splitC_ne _ _)) (Nat.le_refl _)
         refine ⟨(⟨true, (x3.cut 1 x3.l.length), (x4.cut 1 x4.l.length), (x8.cut 1 x8.l.length), (((x2.l.getD 3 []).drop 6).take ((x2.l.getD 3 []).length - 6))⟩ : PPolicy), by rw [hb9]; rfl, hpl9.trans (policyOf_good h1 hb9).symm, ?_⟩
         exact (PPolicy.join _ (hs.only (D := [ow (x3.cut 1 x3.l.length) G90, ow (x4.cut 1 x4.l.length) G91, ow (x8.cut 1 x8.l.length) G92]) Q2) trivial (by show WfS _; unfold WfS; first | (simp only [List.length_take, List.length_drop]; omega) | simp)).fresh List.mem_cons_self
       ·
        replace h4 := of_decide_eq_false h4
        refine WC.skipn ?_
        refine WC.seq' ?_
        refine WC.seq ?_
        refine WL.p Q0 (Yl.loadAB agg26 Q0 hs Q1 Q0 Q0) ?_
        have hpl9 : PPolicy.lg (⟨true, (x3.cut 1 x3.l.length), (x4.cut 1 x4.l.length), (x8.cut 1 x8.l.length), ([] : Str)⟩ : PPolicy) = polS s := by
         have e2 : x2.l = splitC 59 s := hx2
         have g0 : x3.l = splitC 32 ((splitC 59 s).getD 0 []) := by rw [← e2]; exact hx3
         have g1 : x4.l = splitC 32 ((splitC 59 s).getD 1 []) := by rw [← e2]; exact hx4
         have g2 : x8.l = splitC 32 ((splitC 59 s).getD 2 []) := by rw [← e2]; exact hx8
         have c0 : (x3.cut 1 x3.l.length).l = (splitC 32 ((splitC 59 s).getD 0 [])).tail := by rw [Sl.cut_full, g0, List.drop_one]
         have c1 : (x4.cut 1 x4.l.length).l = (splitC 32 ((splitC 59 s).getD 1 [])).tail := by rw [Sl.cut_full, g1, List.drop_one]
         have c2 : (x8.cut 1 x8.l.length).l = (splitC 32 ((splitC 59 s).getD 2 [])).tail := by rw [Sl.cut_full, g2, List.drop_one]
         simp only [PPolicy.lg, polS, polOf, c0, c1, c2, TPolicy.mk.injEq, true_and]
         rw [← e2]
         first
          | (rw [if_neg (show ¬ 3 < x2.l.length from fun h => by omega)]; done)
          | (rw [if_pos (show 3 < x2.l.length from Int.ofNat_lt.1 Q7)]; done)
          | (rw [if_pos (show 3 < x2.l.length from Int.ofNat_lt.1 Q7)]
             simp only [nonceS, nonceI]
             first
               | (rfl; done)
               | (rw [if_neg Q7]; done)
               | (rw [if_pos Q7, List.take_of_length_le (by simp)]; done)
               | (rw [if_pos Q7]; done))
        refine WL.callp hs Q0 (Yc.func Q0 fn62) (c_spec_FormatPolicy (⟨true, (x3.cut 1 x3.l.length), (x4.cut 1 x4.l.length), (x8.cut 1 x8.l.length), ([] : Str)⟩ : PPolicy) _ ⟨trivial, (Sl.Ok.cut (hs.okow (x := x3) (F := F3) Q1) (by rw [hx3]; exact List.length_pos_iff.2 (splitC_ne _ _)) (by exact Nat.le_refl _)), (Sl.Ok.cut (hs.okow (x := x4) (F := F4) Q1) (by rw [hx4]; exact List.length_pos_iff.2 (splitC_ne _ _)) (by exact Nat.le_refl _)), (Sl.Ok.cut (hs.okow (x := x8) (F := F8) Q1) (by rw [hx8]; exact List.length_pos_iff.2 (splitC_ne _ _)) (by exact Nat.le_refl _)), (show WfS [] from Nat.zero_le _)⟩ (by rw [hpl9]; have := polS_size (s := s) (by rw [← show x2.l = splitC 59 s from hx2]; omega); omega)) ?_
        clear hs; intro w hs
        refine Qm ?_
        refine WL.p Q0 (Yl.nes Q0 Q0) ?_
        refine WL.next ?_
        refine WC.condS Q0 (fun h5 => ?_) (fun h5 => ?_)
        ·
         replace h5 := not_eq_true h5
         replace h5 := of_decide_eq_false h5
         refine WC.seq ?_
         refine WL.p Q0 (Yl.build bt26 Q0 Q4) ?_
         refine WL.s (Yr.storeB hs Q0 Q0 Q0 Q5 Q3 Q0 (by exact szf26)) ?_
         clear hs; rintro _ w hs
         refine Qa ?_
         refine WL.next ?_
         refine WC.ret ?_
         refine At.thenret ?_
         refine fin2c rfl agg26 Q0 Q0 hs Q1 Q0 ?_
         refine Ret.mk hs ?_
         rw [hpl9] at h5
         have hb9 : policyIs s = false := policyIs_bad h1 h5
         exact ⟨⟨false, ⟨[], none, 0⟩, ⟨[], none, 0⟩, ⟨[], none, 0⟩, []⟩, by rw [hb9]; rfl, (policyOf_no (.inr hb9)).symm, ⟨⟨[], PPolicy.zown _, .nil, fun b h => by cases h⟩⟩⟩
        ·
         replace h5 := not_eq_false h5
         replace h5 := of_decide_eq_true h5
         refine WC.skipn ?_
         refine WC.seq ?_
         refine WL.p Q0 (Yl.loadAB agg26 Q0 hs Q1 Q0 Q0) ?_
         refine WL.s (Yr.storeB hs Q0 Q0 Q0 Q5 Q3 Q0 (by exact szf26)) ?_
         clear hs; rintro _ w hs
         refine Qa ?_
         refine WL.next ?_
         refine WC.ret ?_
         refine fin2c rfl agg26 Q0 Q0 hs Q1 Q0 ?_
         refine Ret.mk hs ?_
         rw [hpl9] at h5
         have hq9 : x2.l = splitC 59 s := hx2
         have h49 : 3 ≤ (splitC 59 s).length := by rw [← hq9]; omega
         have hb9 : policyIs s = true := policyIs_good h5 h49
         obtain ⟨G90, hs⟩ := Sat.cutow (lo := 1) (hi := x3.l.length) (hs.sel (D := [ow x3 F3]) Q2) (by rw [hx3]; exact List.length_pos_iff.2 (splitC_ne _ _)) (Nat.le_refl _)
         obtain ⟨G91, hs⟩ := Sat.cutow (lo := 1) (hi := x4.l.length) (hs.sel (D := [ow x4 F4]) Q2) (by rw [hx4]; exact List.length_pos_iff.2 (splitC_ne _ _)) (Nat.le_refl _)
         obtain ⟨G92, hs⟩ := Sat.cutow (lo := 1) (hi := x8.l.length) (hs.sel (D := [ow x8 F8]) Q2) (by rw [hx8]; exact List.length_pos_iff.2 (splitC_ne _ _)) (Nat.le_refl _)
         refine ⟨(⟨true, (x3.cut 1 x3.l.length), (x4.cut 1 x4.l.length), (x8.cut 1 x8.l.length), ([] : Str)⟩ : PPolicy), by rw [hb9]; rfl, hpl9.trans (policyOf_good h1 hb9).symm, ?_⟩
         exact (PPolicy.join _ (hs.only (D := [ow (x3.cut 1 x3.l.length) G90, ow (x4.cut 1 x4.l.length) G91, ow (x8.cut 1 x8.l.length) G92]) Q2) trivial (by show WfS _; unfold WfS; first | (simp only [List.length_take, List.length_drop]; omega) | simp)).fresh List.mem_cons_self
      ·
       replace h3 := of_decide_eq_false h3
       refine WL.skip (d := 34) Q0 Q0 Q0 Q0 ?_
       refine WL.skip (d := 34) Q0 Q0 Q0 Q0 ?_
       refine WL.skip (d := 34) Q0 Q0 Q0 Q0 ?_
       refine WL.skip (d := 34) Q0 Q0 Q0 Q0 ?_
       refine WL.skip (d := 34) Q0 Q0 Q0 Q0 ?_
       refine WL.p Q0 (Yl.pickF Q0 Q0) ?_
       refine WL.next ?_
       refine WC.condF Q0 ?_
       refine WC.skipn ?_
       refine WC.seq' ?_
       refine WC.seq ?_
       refine WL.p Q0 (Yl.loadAB agg26 Q0 hs Q1 Q0 Q0) ?_
       have hpl9 : PPolicy.lg (⟨true, (x3.cut 1 x3.l.length), (x4.cut 1 x4.l.length), (x8.cut 1 x8.l.length), ([] : Str)⟩ : PPolicy) = polS s := by
        have e2 : x2.l = splitC 59 s := hx2
        have g0 : x3.l = splitC 32 ((splitC 59 s).getD 0 []) := by rw [← e2]; exact hx3
        have g1 : x4.l = splitC 32 ((splitC 59 s).getD 1 []) := by rw [← e2]; exact hx4
        have g2 : x8.l = splitC 32 ((splitC 59 s).getD 2 []) := by rw [← e2]; exact hx8
        have c0 : (x3.cut 1 x3.l.length).l = (splitC 32 ((splitC 59 s).getD 0 [])).tail := by rw [Sl.cut_full, g0, List.drop_one]
        have c1 : (x4.cut 1 x4.l.length).l = (splitC 32 ((splitC 59 s).getD 1 [])).tail := by rw [Sl.cut_full, g1, List.drop_one]
        have c2 : (x8.cut 1 x8.l.length).l = (splitC 32 ((splitC 59 s).getD 2 [])).tail := by rw [Sl.cut_full, g2, List.drop_one]
        simp only [PPolicy.lg, polS, polOf, c0, c1, c2, TPolicy.mk.injEq, true_and]
        rw [← e2]
        first
         | (rw [if_neg (show ¬ 3 < x2.l.length from fun h => by omega)]; done)
         | (rw [if_pos (show 3 < x2.l.length from Int.ofNat_lt.1 Q7)]; done)
         | (rw [if_pos (show 3 < x2.l.length from Int.ofNat_lt.1 Q7)]
            simp only [nonceS, nonceI]
            first
              | (rfl; done)
              | (rw [if_neg Q7]; done)
              | (rw [if_pos Q7, List.take_of_length_le (by simp)]; done)
              | (rw [if_pos Q7]; done))
       refine WL.callp hs Q0 (Yc.func Q0 fn62) (c_spec_FormatPolicy (⟨true, (x3.cut 1 x3.l.length), (x4.cut 1 x4.l.length), (x8.cut 1 x8.l.length), ([] : Str)⟩ : PPolicy) _ ⟨trivial, (Sl.Ok.cut (hs.okow (x := x3) (F := F3) Q1) (by rw [hx3]; exact List.length_pos_iff.2 (splitC_ne _ _)) (by exact Nat.le_refl _)), (Sl.Ok.cut (hs.okow (x := x4) (F := F4) Q1) (by rw [hx4]; exact List.length_pos_iff.2 (splitC_ne _ _)) (by exact Nat.le_refl _)), (Sl.Ok.cut (hs.okow (x := x8) (F := F8) Q1) (by rw [hx8]; exact List.length_pos_iff.2 (splitC_ne _ _)) (by exact Nat.le_refl _)), (show WfS [] from Nat.zero_le _)⟩ (by rw [hpl9]; have := polS_size (s := s) (by rw [← show x2.l = splitC 59 s from hx2]; omega); omega)) ?_
       clear hs; intro w hs
       refine Qm ?_
       refine WL.p Q0 (Yl.nes Q0 Q0) ?_
       refine WL.next ?_
       refine WC.condS Q0 (fun h4 => ?_) (fun h4 => ?_)
       ·
        replace h4 := not_eq_true h4
        replace h4 := of_decide_eq_false h4
        refine WC.seq ?_
        refine WL.p Q0 (Yl.build bt26 Q0 Q4) ?_
        refine WL.s (Yr.storeB hs Q0 Q0 Q0 Q5 Q3 Q0 (by exact szf26)) ?_
        clear hs; rintro _ w hs
        refine Qa ?_
        refine WL.next ?_
        refine WC.ret ?_
        refine At.thenret ?_
        refine fin2c rfl agg26 Q0 Q0 hs Q1 Q0 ?_
        refine Ret.mk hs ?_
        rw [hpl9] at h4
        have hb9 : policyIs s = false := policyIs_bad h1 h4
        exact ⟨⟨false, ⟨[], none, 0⟩, ⟨[], none, 0⟩, ⟨[], none, 0⟩, []⟩, by rw [hb9]; rfl, (policyOf_no (.inr hb9)).symm, ⟨⟨[], PPolicy.zown _, .nil, fun b h => by cases h⟩⟩⟩
       ·
        replace h4 := not_eq_false h4
        replace h4 := of_decide_eq_true h4
        refine WC.skipn ?_
        refine WC.seq ?_
        refine WL.p Q0 (Yl.loadAB agg26 Q0 hs Q1 Q0 Q0) ?_
        refine WL.s (Yr.storeB hs Q0 Q0 Q0 Q5 Q3 Q0 (by exact szf26)) ?_
        clear hs; rintro _ w hs
        refine Qa ?_
        refine WL.next ?_
        refine WC.ret ?_
        refine fin2c rfl agg26 Q0 Q0 hs Q1 Q0 ?_
        refine Ret.mk hs ?_
        rw [hpl9] at h4
        have hq9 : x2.l = splitC 59 s := hx2
        have h49 : 3 ≤ (splitC 59 s).length := by rw [← hq9]; omega
        have hb9 : policyIs s = true := policyIs_good h4 h49
        obtain ⟨G90, hs⟩ := Sat.cutow (lo := 1) (hi := x3.l.length) (hs.sel (D := [ow x3 F3]) Q2) (by rw [hx3]; exact List.length_pos_iff.2 (splitC_ne _ _)) (Nat.le_refl _)
        obtain ⟨G91, hs⟩ := Sat.cutow (lo := 1) (hi := x4.l.length) (hs.sel (D := [ow x4 F4]) Q2) (by rw [hx4]; exact List.length_pos_iff.2 (splitC_ne _ _)) (Nat.le_refl _)
        obtain ⟨G92, hs⟩ := Sat.cutow (lo := 1) (hi := x8.l.length) (hs.sel (D := [ow x8 F8]) Q2) (by rw [hx8]; exact List.length_pos_iff.2 (splitC_ne _ _)) (Nat.le_refl _)
        refine ⟨(⟨true, (x3.cut 1 x3.l.length), (x4.cut 1 x4.l.length), (x8.cut 1 x8.l.length), ([] : Str)⟩ : PPolicy), by rw [hb9]; rfl, hpl9.trans (policyOf_good h1 hb9).symm, ?_⟩
        exact (PPolicy.join _ (hs.only (D := [ow (x3.cut 1 x3.l.length) G90, ow (x4.cut 1 x4.l.length) G91, ow (x8.cut 1 x8.l.length) G92]) Q2) trivial (by show WfS _; unfold WfS; first | (simp only [List.length_take, List.length_drop]; omega) | simp)).fresh List.mem_cons_self
    ·
     refine WI.r (i := 16) Q0 Q0 (Yr.alloc hs zt26) (by rintro _ w ⟨b9, rfl, hb, hs⟩; exact hs.only Q2) ?_
     clear hs; rintro _ w ⟨b9, rfl, hb, hs⟩; clear hb
     refine WA.call2 (i := 8) hs (fun _ hs => hs.only Q2) Q6 Q0 Q0 (Yc.func Q0 fn64) (c_spec_l5Split _ 32 _ (by first | (have := getD_len (s := s) (i := 0); rw [← show x2.l = splitC 59 s from hx2] at this; omega) | (have := getD_len (s := s) (i := 1); rw [← show x2.l = splitC 59 s from hx2] at this; omega) | (have := getD_len (s := s) (i := 2); rw [← show x2.l = splitC 59 s from hx2] at this; omega) | (have := getD_len (s := s) (i := 3); rw [← show x2.l = splitC 59 s from hx2] at this; omega))) ?_
     have hs0 := hs; clear hs; intro v w hb hR hs; clear hs
     obtain ⟨x10, rfl, hx10, hf10⟩ := hR
     obtain ⟨F10, hs⟩ := hf10.sat hs0 hb; clear hs0 hf10
     have hle10 := Sl.Ok.le (hs.okow (x := x10) (F := F10) Q1)
     refine WA.p (i := 9) Q0 Q6 Q6 Q6 Q0 (hs.only Q2) (fun w hs => Yl.slice_sl (s := x10) (l := 1) (h := x10.l.length) slt24 Q0 hle10 (by exact ⟨_, by rfl⟩) (by exact rfl) (by rw [hx10]; exact List.length_pos_iff.2 (splitC_ne _ _)) (by exact Nat.le_refl _)) ?_
     refine WA.call2 (i := 13) hs (fun _ hs => hs.only Q2) Q6 Q0 Q0 (Yc.func Q0 fn64) (c_spec_l5Split _ 32 _ (by first | (have := getD_len (s := s) (i := 0); rw [← show x2.l = splitC 59 s from hx2] at this; omega) | (have := getD_len (s := s) (i := 1); rw [← show x2.l = splitC 59 s from hx2] at this; omega) | (have := getD_len (s := s) (i := 2); rw [← show x2.l = splitC 59 s from hx2] at this; omega) | (have := getD_len (s := s) (i := 3); rw [← show x2.l = splitC 59 s from hx2] at this; omega))) ?_
     have hs0 := hs; clear hs; intro v w hb hR hs; clear hs
     obtain ⟨x11, rfl, hx11, hf11⟩ := hR
     obtain ⟨F11, hs⟩ := hf11.sat hs0 hb; clear hs0 hf11
     have hle11 := Sl.Ok.le (hs.okow (x := x11) (F := F11) Q1)
     refine WA.r (i := 14) Q6 Q0 Q0 (Yl.yr (Yl.slice_sl (s := x11) (l := 1) (h := x11.l.length) slt24 Q0 hle11 (by exact ⟨_, by rfl⟩) (by exact rfl) (by rw [hx11]; exact List.length_pos_iff.2 (splitC_ne _ _)) (by exact Nat.le_refl _))) (by rintro _ _ ⟨rfl, rfl⟩; exact hs.only Q2) ?_
     rintro _ _ ⟨rfl, rfl⟩
     refine WA.p (i := 15) Q0 Q6 Q6 Q6 Q0 (hs.only Q2) (fun w hs => Yl.build bt26 Q0 Q4) ?_
     refine WA.s (i := 17) Q6 Q0 (Yr.storeB hs Q0 Q0 Q0 Q5 Q3 Q0 (by exact szf26)) (by rintro _ w hs; exact hs.only Q2) ?_
     clear hs; rintro _ w hs
     refine WA.donen Q6 ?_
     refine WC.seq' ?_
     refine WC.seq ?_
     refine Qm ?_
     refine WL.p Q0 (Yl.len_sl slu24 Q0) ?_
     refine WL.p Q0 (Yl.gtr Q0 Q0) ?_
     refine Qm ?_
     refine WL.split (d := 34) Q0 (fun h3 => ?_) (fun h3 => ?_)
     ·
      replace h3 := of_decide_eq_true h3
      refine WL.run (d := 34) Q0 Q0 ?_
      refine Qm ?_
      refine WL.run (d := 34) Q0 Q0 ?_
      refine WL.p Q0 (Yl.indexAddr (k := 3) slt24 Q0 Q0 (hs.okow (x := x2) (F := F2) Q1) Q0 ((getD_some (i := 3) (z := ([] : Str)) Q7))) ?_
      refine WL.run (d := 34) Q0 Q0 ?_
      refine WL.p Q0 (Yl.loadC0 sca9 Q0 (Sl.Ok.at_ (hs.okow (x := x2) (F := F2) Q1) ((getD_some (i := 3) (z := ([] : Str)) Q7))).2 Q0) ?_
      refine WL.run (d := 34) Q0 Q0 ?_
      refine WL.p Q0 (Yl.len_str str9 Q0) ?_
      refine WL.run (d := 34) Q0 Q0 ?_
      refine WL.p Q0 (Yl.gtr Q0 Q0) ?_
      refine WL.p Q0 (Yl.pickT Q0 Q0) ?_
      refine WL.next ?_
      refine WC.condS Q0 (fun h4 => ?_) (fun h4 => ?_)
      ·
       replace h4 := of_decide_eq_true h4
       refine WC.region ?_
       refine Qm ?_
       refine WL.p Q0 (Yl.indexAddr (k := 3) slt24 Q0 Q0 (hs.okow (x := x2) (F := F2) Q1) Q0 ((getD_some (i := 3) (z := ([] : Str)) Q7))) ?_
       refine WL.p Q0 (Yl.loadC0 sca9 Q0 (Sl.Ok.at_ (hs.okow (x := x2) (F := F2) Q1) ((getD_some (i := 3) (z := ([] : Str)) Q7))).2 Q0) ?_
       refine WL.p Q0 (Yl.slice_str (l := 6) str9 Q0 (by exact ⟨_, by rfl⟩) (by exact rfl) Q7 Q7) ?_
       refine WL.p Q0 (Yl.fieldAddr fa26_4 Q0) ?_
       refine WL.s (Yr.storeB hs Q0 Q0 Q0 Q5 Q3 Q0 (by exact szf9)) ?_
       clear hs; rintro _ w hs
       refine WL.nil ?_
       refine At.then_ ?_
       refine WC.seq' ?_
       refine WC.seq ?_
       refine WL.p Q0 (Yl.loadAB agg26 Q0 hs Q1 Q0 Q0) ?_
       have hpl9 : PPolicy.lg (⟨true, (x3.cut 1 x3.l.length), (x10.cut 1 x10.l.length), (x11.cut 1 x11.l.length), (((x2.l.getD 3 []).drop 6).take ((x2.l.getD 3 []).length - 6))⟩ : PPolicy) = polS s := by
        have e2 : x2.l = splitC 59 s := hx2
        have g0 : x3.l = splitC 32 ((splitC 59 s).getD 0 []) := by rw [← e2]; exact hx3
        have g1 : x10.l = splitC 32 ((splitC 59 s).getD 1 []) := by rw [← e2]; exact hx10
        have g2 : x11.l = splitC 32 ((splitC 59 s).getD 2 []) := by rw [← e2]; exact hx11
        have c0 : (x3.cut 1 x3.l.length).l = (splitC 32 ((splitC 59 s).getD 0 [])).tail := by rw [Sl.cut_full, g0, List.drop_one]
        have c1 : (x10.cut 1 x10.l.length).l = (splitC 32 ((splitC 59 s).getD 1 [])).tail := by rw [Sl.cut_full, g1, List.drop_one]
        have c2 : (x11.cut 1 x11.l.length).l = (splitC 32 ((splitC 59 s).getD 2 [])).tail := by rw [Sl.cut_full, g2, List.drop_one]
        simp only [PPolicy.lg, polS, polOf, c0, c1, c2, TPolicy.mk.injEq, true_and]
        rw [← e2]
        first
         | (rw [if_neg (show ¬ 3 < x2.l.length from fun h => by omega)]; done)
         | (rw [if_pos (show 3 < x2.l.length from Int.ofNat_lt.1 Q7)]; done)
         | (rw [if_pos (show 3 < x2.l.length from Int.ofNat_lt.1 Q7)]
            simp only [nonceS, nonceI]
            first
              | (rfl; done)
              | (rw [if_neg Q7]; done)
              | (rw [if_pos Q7, List.take_of_length_le (by simp)]; done)
              | (rw [if_pos Q7]; done))
       refine WL.callp hs Q0 (Yc.func Q0 fn62) (c_spec_FormatPolicy (⟨true, (x3.cut 1 x3.l.length), (x10.cut 1 x10.l.length), (x11.cut 1 x11.l.length), (((x2.l.getD 3 []).drop 6).take ((x2.l.getD 3 []).length - 6))⟩ : PPolicy) _ ⟨trivial, (Sl.Ok.cut (hs.okow (x := x3) (F := F3) Q1) (by rw [hx3]; exact List.length_pos_iff.2 (splitC_ne _ _)) (by exact Nat.le_refl _)), (Sl.Ok.cut (hs.okow (x := x10) (F := F10) Q1) (by rw [hx10]; exact List.length_pos_iff.2 (splitC_ne _ _)) (by exact Nat.le_refl _)), (Sl.Ok.cut (hs.okow (x := x11) (F := F11) Q1) (by rw [hx11]; exact List.length_pos_iff.2 (splitC_ne _ _)) (by exact Nat.le_refl _)), (by show WfS _; unfold WfS; simp only [List.length_take, List.length_drop]; omega)⟩ (by rw [hpl9]; have := polS_size (s := s) (by rw [← show x2.l = splitC 59 s from hx2]; omega); omega)) ?_
       clear hs; intro w hs
       refine Qm ?_
       refine WL.p Q0 (Yl.nes Q0 Q0) ?_
       refine WL.next ?_
       refine WC.condS Q0 (fun h5 => ?_) (fun h5 => ?_)
       ·
        replace h5 := not_eq_true h5
        replace h5 := of_decide_eq_false h5
        refine WC.seq ?_
        refine WL.p Q0 (Yl.build bt26 Q0 Q4) ?_
        refine WL.s (Yr.storeB hs Q0 Q0 Q0 Q5 Q3 Q0 (by exact szf26)) ?_
        clear hs; rintro _ w hs
        refine Qa ?_
        refine WL.next ?_
        refine WC.ret ?_
        refine At.thenret ?_
        refine fin2c rfl agg26 Q0 Q0 hs Q1 Q0 ?_
        refine Ret.mk hs ?_
        rw [hpl9] at h5
        have hb9 : policyIs s = false := policyIs_bad h1 h5
        exact ⟨⟨false, ⟨[], none, 0⟩, ⟨[], none, 0⟩, ⟨[], none, 0⟩, []⟩, by rw [hb9]; rfl, (policyOf_no (.inr hb9)).symm, ⟨⟨[], PPolicy.zown _, .nil, fun b h => by cases h⟩⟩⟩
       ·
        replace h5 := not_eq_false h5
        replace h5 := of_decide_eq_true h5
        refine WC.skipn ?_
        refine WC.seq ?_
        refine WL.p Q0 (Yl.loadAB agg26 Q0 hs Q1 Q0 Q0) ?_
        refine WL.s (Yr.storeB hs Q0 Q0 Q0 Q5 Q3 Q0 (by exact szf26)) ?_
        clear hs; rintro _ w hs
        refine Qa ?_
        refine WL.next ?_
        refine WC.ret ?_
        refine fin2c rfl agg26 Q0 Q0 hs Q1 Q0 ?_
        refine Ret.mk hs ?_
        rw [hpl9] at h5
        have hq9 : x2.l = splitC 59 s := hx2
        have h49 : 3 ≤ (splitC 59 s).length := by rw [← hq9]; omega
        have hb9 : policyIs s = true := policyIs_good h5 h49
        obtain ⟨G90, hs⟩ := Sat.cutow (lo := 1) (hi := x3.l.length) (hs.sel (D := [ow x3 F3]) Q2) (by rw [hx3]; exact List.length_pos_iff.2 (splitC_ne _ _)) (Nat.le_refl _)
        obtain ⟨G91, hs⟩ := Sat.cutow (lo := 1) (hi := x10.l.length) (hs.sel (D := [ow x10 F10]) Q2) (by rw [hx10]; exact List.length_pos_iff.2 (splitC_ne _ _)) (Nat.le_refl _)
        obtain ⟨G92, hs⟩ := Sat.cutow (lo := 1) (hi := x11.l.length) (hs.sel (D := [ow x11 F11]) Q2) (by rw [hx11]; exact List.length_pos_iff.2 (splitC_ne _ _)) (Nat.le_refl _)
        refine ⟨(⟨true, (x3.cut 1 x3.l.length), (x10.cut 1 x10.l.length), (x11.cut 1 x11.l.length), (((x2.l.getD 3 []).drop 6).take ((x2.l.getD 3 []).length - 6))⟩ : PPolicy), by rw [hb9]; rfl, hpl9.trans (policyOf_good h1 hb9).symm, ?_⟩
        exact (PPolicy.join _ (hs.only (D := [ow (x3.cut 1 x3.l.length) G90, ow (x10.cut 1 x10.l.length) G91, ow (x11.cut 1 x11.l.length) G92]) Q2) trivial (by show WfS _; unfold WfS; first | (simp only [List.length_take, List.length_drop]; omega) | simp)).fresh List.mem_cons_self
      ·
       replace h4 := of_decide_eq_false h4
       refine WC.skipn ?_
       refine WC.seq' ?_
       refine WC.seq ?_
       refine WL.p Q0 (Yl.loadAB agg26 Q0 hs Q1 Q0 Q0) ?_
       have hpl9 : PPolicy.lg (⟨true, (x3.cut 1 x3.l.length), (x10.cut 1 x10.l.length), (x11.cut 1 x11.l.length), ([] : Str)⟩ : PPolicy) = polS s := by
        have e2 : x2.l = splitC 59 s := hx2
        have g0 : x3.l = splitC 32 ((splitC 59 s).getD 0 []) := by rw [← e2]; exact hx3
        have g1 : x10.l = splitC 32 ((splitC 59 s).getD 1 []) := by rw [← e2]; exact hx10
        have g2 : x11.l = splitC 32 ((splitC 59 s).getD 2 []) := by rw [← e2]; exact hx11
        have c0 : (x3.cut 1 x3.l.length).l = (splitC 32 ((splitC 59 s).getD 0 [])).tail := by rw [Sl.cut_full, g0, List.drop_one]
        have c1 : (x10.cut 1 x10.l.length).l = (splitC 32 ((splitC 59 s).getD 1 [])).tail := by rw [Sl.cut_full, g1, List.drop_one]
        have c2 : (x11.cut 1 x11.l.length).l = (splitC 32 ((splitC 59 s).getD 2 [])).tail := by rw [Sl.cut_full, g2, List.drop_one]
        simp only [PPolicy.lg, polS, polOf, c0, c1, c2, TPolicy.mk.injEq, true_and]
        rw [← e2]
        first
         | (rw [if_neg (show ¬ 3 < x2.l.length from fun h => by omega)]; done)
         | (rw [if_pos (show 3 < x2.l.length from Int.ofNat_lt.1 Q7)]; done)
         | (rw [if_pos (show 3 < x2.l.length from Int.ofNat_lt.1 Q7)]
            simp only [nonceS, nonceI]
            first
              | (rfl; done)
              | (rw [if_neg Q7]; done)
              | (rw [if_pos Q7, List.take_of_length_le (by simp)]; done)
              | (rw [if_pos Q7]; done))
       refine WL.callp hs Q0 (Yc.func Q0 fn62) (c_spec_FormatPolicy (⟨true, (x3.cut 1 x3.l.length), (x10.cut 1 x10.l.length), (x11.cut 1 x11.l.length), ([] : Str)⟩ : PPolicy) _ ⟨trivial, (Sl.Ok.cut (hs.okow (x := x3) (F := F3) Q1) (by rw [hx3]; exact List.length_pos_iff.2 (splitC_ne _ _)) (by exact Nat.le_refl _)), (Sl.Ok.cut (hs.okow (x := x10) (F := F10) Q1) (by rw [hx10]; exact List.length_pos_iff.2 (splitC_ne _ _)) (by exact Nat.le_refl _)), (Sl.Ok.cut (hs.okow (x := x11) (F := F11) Q1) (by rw [hx11]; exact List.length_pos_iff.2 (splitC_ne _ _)) (by exact Nat.le_refl _)), (show WfS [] from Nat.zero_le _)⟩ (by rw [hpl9]; have := polS_size (s := s) (by rw [← show x2.l = splitC 59 s from hx2]; omega); omega)) ?_
       clear hs; intro w hs
       refine Qm ?_
       refine WL.p Q0 (Yl.nes Q0 Q0) ?_
       refine WL.next ?_
       refine WC.condS Q0 (fun h5 => ?_) (fun h5 => ?_)
       ·
        replace h5 := not_eq_true h5
        replace h5 := of_decide_eq_false h5
        refine WC.seq ?_
        refine WL.p Q0 (Yl.build bt26 Q0 Q4) ?_
        refine WL.s (Yr.storeB hs Q0 Q0 Q0 Q5 Q3 Q0 (by exact szf26)) ?_
        clear hs; rintro _ w hs
        refine Qa ?_
        refine WL.next ?_
        refine WC.ret ?_
        refine At.thenret ?_
        refine fin2c rfl agg26 Q0 Q0 hs Q1 Q0 ?_
        refine Ret.mk hs ?_
        rw [hpl9] at h5
        have hb9 : policyIs s = false := policyIs_bad h1 h5
        exact ⟨⟨false, ⟨[], none, 0⟩, ⟨[], none, 0⟩, ⟨[], none, 0⟩, []⟩, by rw [hb9]; rfl, (policyOf_no (.inr hb9)).symm, ⟨⟨[], PPolicy.zown _, .nil, fun b h => by cases h⟩⟩⟩
       ·
        replace h5 := not_eq_false h5
        replace h5 := of_decide_eq_true h5
        refine WC.skipn ?_
        refine WC.seq ?_
        refine WL.p Q0 (Yl.loadAB agg26 Q0 hs Q1 Q0 Q0) ?_
        refine WL.s (Yr.storeB hs Q0 Q0 Q0 Q5 Q3 Q0 (by exact szf26)) ?_
        clear hs; rintro _ w hs
        refine Qa ?_
        refine WL.next ?_
        refine WC.ret ?_
        refine fin2c rfl agg26 Q0 Q0 hs Q1 Q0 ?_
        refine Ret.mk hs ?_
        rw [hpl9] at h5
        have hq9 : x2.l = splitC 59 s := hx2
        have h49 : 3 ≤ (splitC 59 s).length := by rw [← hq9]; omega
        have hb9 : policyIs s = true := policyIs_good h5 h49
        obtain ⟨G90, hs⟩ := Sat.cutow (lo := 1) (hi := x3.l.length) (hs.sel (D := [ow x3 F3]) Q2) (by rw [hx3]; exact List.length_pos_iff.2 (splitC_ne _ _)) (Nat.le_refl _)
        obtain ⟨G91, hs⟩ := Sat.cutow (lo := 1) (hi := x10.l.length) (hs.sel (D := [ow x10 F10]) Q2) (by rw [hx10]; exact List.length_pos_iff.2 (splitC_ne _ _)) (Nat.le_refl _)
        obtain ⟨G92, hs⟩ := Sat.cutow (lo := 1) (hi := x11.l.length) (hs.sel (D := [ow x11 F11]) Q2) (by rw [hx11]; exact List.length_pos_iff.2 (splitC_ne _ _)) (Nat.le_refl _)
        refine ⟨(⟨true, (x3.cut 1 x3.l.length), (x10.cut 1 x10.l.length), (x11.cut 1 x11.l.length), ([] : Str)⟩ : PPolicy), by rw [hb9]; rfl, hpl9.trans (policyOf_good h1 hb9).symm, ?_⟩
        exact (PPolicy.join _ (hs.only (D := [ow (x3.cut 1 x3.l.length) G90, ow (x10.cut 1 x10.l.length) G91, ow (x11.cut 1 x11.l.length) G92]) Q2) trivial (by show WfS _; unfold WfS; first | (simp only [List.length_take, List.length_drop]; omega) | simp)).fresh List.mem_cons_self
     ·
      replace h3 := of_decide_eq_false h3
      refine WL.skip (d := 34) Q0 Q0 Q0 Q0 ?_
      refine WL.skip (d := 34) Q0 Q0 Q0 Q0 ?_
      refine WL.skip (d := 34) Q0 Q0 Q0 Q0 ?_
      refine WL.skip (d := 34) Q0 Q0 Q0 Q0 ?_
      refine WL.skip (d := 34) Q0 Q0 Q0 Q0 ?_
      refine WL.p Q0 (Yl.pickF Q0 Q0) ?_
      refine WL.next ?_
      refine WC.condF Q0 ?_
      refine WC.skipn ?_
      refine WC.seq' ?_
      refine WC.seq ?_
      refine WL.p Q0 (Yl.loadAB agg26 Q0 hs Q1 Q0 Q0) ?_
      have hpl9 : PPolicy.lg (⟨true, (x3.cut 1 x3.l.length), (x10.cut 1 x10.l.length), (x11.cut 1 x11.l.length), ([] : Str)⟩ : PPolicy) = polS s := by
       have e2 : x2.l = splitC 59 s := hx2
       have g0 : x3.l = splitC 32 ((splitC 59 s).getD 0 []) := by rw [← e2]; exact hx3
       have g1 : x10.l = splitC 32 ((splitC 59 s).getD 1 []) := by rw [← e2]; exact hx10
       have g2 : x11.l = splitC 32 ((splitC 59 s).getD 2 []) := by rw [← e2]; exact hx11
       have c0 : (x3.cut 1 x3.l.length).l = (splitC 32 ((splitC 59 s).getD 0 [])).tail := by rw [Sl.cut_full, g0, List.drop_one]
       have c1 : (x10.cut 1 x10.l.length).l = (splitC 32 ((splitC 59 s).getD 1 [])).tail := by rw [Sl.cut_full, g1, List.drop_one]
       have c2 : (x11.cut 1 x11.l.length).l = (splitC 32 ((splitC 59 s).getD 2 [])).tail := by rw [Sl.cut_full, g2, List.drop_one]
       simp only [PPolicy.lg, polS, polOf, c0, c1, c2, TPolicy.mk.injEq, true_and]
       rw [← e2]
       first
        | (rw [if_neg (show ¬ 3 < x2.l.length from fun h => by omega)]; done)
        | (rw [if_pos (show 3 < x2.l.length from Int.ofNat_lt.1 Q7)]; done)
        | (rw [if_pos (show 3 < x2.l.length from Int.ofNat_lt.1 Q7)]
           simp only [nonceS, nonceI]
           first
             | (rfl; done)
             | (rw [if_neg Q7]; done)
             | (rw [if_pos Q7, List.take_of_length_le (by simp)]; done)
             | (rw [if_pos Q7]; done))
      refine WL.callp hs Q0 (Yc.func Q0 fn62) (c_spec_FormatPolicy (⟨true, (x3.cut 1 x3.l.length), (x10.cut 1 x10.l.length), (x11.cut 1 x11.l.length), ([] : Str)⟩ : PPolicy) _ ⟨trivial, (Sl.Ok.cut (hs.okow (x := x3) (F := F3) Q1) (by rw [hx3]; exact List.length_pos_iff.2 (splitC_ne _ _)) (by exact Nat.le_refl _)), (Sl.Ok.cut (hs.okow (x := x10) (F := F10) Q1) (by rw [hx10]; exact List.length_pos_iff.2 (splitC_ne _ _)) (by exact Nat.le_refl _)), (Sl.Ok.cut (hs.okow (x := x11) (F := F11) Q1) (by rw [hx11]; exact List.length_pos_iff.2 (splitC_ne _ _)) (by exact Nat.le_refl _)), (show WfS [] from Nat.zero_le _)⟩ (by rw [hpl9]; have := polS_size (s := s) (by rw [← show x2.l = splitC 59 s from hx2]; omega); omega)) ?_
      clear hs; intro w hs
      refine Qm ?_
      refine WL.p Q0 (Yl.nes Q0 Q0) ?_
      refine WL.next ?_
      refine WC.condS Q0 (fun h4 => ?_) (fun h4 => ?_)
      ·
       replace h4 := not_eq_true h4
       replace h4 := of_decide_eq_false h4
       refine WC.seq ?_
       refine WL.p Q0 (Yl.build bt26 Q0 Q4) ?_
       refine WL.s (Yr.storeB hs Q0 Q0 Q0 Q5 Q3 Q0 (by exact szf26)) ?_
       clear hs; rintro _ w hs
       refine Qa ?_
       refine WL.next ?_
       refine WC.ret ?_
       refine At.thenret ?_
       refine fin2c rfl agg26 Q0 Q0 hs Q1 Q0 ?_
       refine Ret.mk hs ?_
       rw [hpl9] at h4
       have hb9 : policyIs s = false := policyIs_bad h1 h4
       exact ⟨⟨false, ⟨[], none, 0⟩, ⟨[], none, 0⟩, ⟨[], none, 0⟩, []⟩, by rw [hb9]; rfl, (policyOf_no (.inr hb9)).symm, ⟨⟨[], PPolicy.zown _, .nil, fun b h => by cases h⟩⟩⟩
      ·
       replace h4 := not_eq_false h4
       replace h4 := of_decide_eq_true h4
       refine WC.skipn ?_
       refine WC.seq ?_
       refine WL.p Q0 (Yl.loadAB agg26 Q0 hs Q1 Q0 Q0) ?_
       refine WL.s (Yr.storeB hs Q0 Q0 Q0 Q5 Q3 Q0 (by exact szf26)) ?_
       clear hs; rintro _ w hs
       refine Qa ?_
       refine WL.next ?_
       refine WC.ret ?_
       refine fin2c rfl agg26 Q0 Q0 hs Q1 Q0 ?_
       refine Ret.mk hs ?_
       rw [hpl9] at h4
       have hq9 : x2.l = splitC 59 s := hx2
       have h49 : 3 ≤ (splitC 59 s).length := by rw [← hq9]; omega
       have hb9 : policyIs s = true := policyIs_good h4 h49
       obtain ⟨G90, hs⟩ := Sat.cutow (lo := 1) (hi := x3.l.length) (hs.sel (D := [ow x3 F3]) Q2) (by rw [hx3]; exact List.length_pos_iff.2 (splitC_ne _ _)) (Nat.le_refl _)
       obtain ⟨G91, hs⟩ := Sat.cutow (lo := 1) (hi := x10.l.length) (hs.sel (D := [ow x10 F10]) Q2) (by rw [hx10]; exact List.length_pos_iff.2 (splitC_ne _ _)) (Nat.le_refl _)
       obtain ⟨G92, hs⟩ := Sat.cutow (lo := 1) (hi := x11.l.length) (hs.sel (D := [ow x11 F11]) Q2) (by rw [hx11]; exact List.length_pos_iff.2 (splitC_ne _ _)) (Nat.le_refl _)
       refine ⟨(⟨true, (x3.cut 1 x3.l.length), (x10.cut 1 x10.l.length), (x11.cut 1 x11.l.length), ([] : Str)⟩ : PPolicy), by rw [hb9]; rfl, hpl9.trans (policyOf_good h1 hb9).symm, ?_⟩
       exact (PPolicy.join _ (hs.only (D := [ow (x3.cut 1 x3.l.length) G90, ow (x10.cut 1 x10.l.length) G91, ow (x11.cut 1 x11.l.length) G92]) Q2) trivial (by show WfS _; unfold WfS; first | (simp only [List.length_take, List.length_drop]; omega) | simp)).fresh List.mem_cons_self
   ·
    refine WI.r (i := 16) Q0 Q0 (Yr.alloc hs zt26) (by rintro _ w ⟨b12, rfl, hb, hs⟩; exact hs.only Q2) ?_
    clear hs; rintro _ w ⟨b12, rfl, hb, hs⟩; clear hb
    refine WA.call2 (i := 3) hs (fun _ hs => hs.only Q2) Q6 Q0 Q0 (Yc.func Q0 fn64) (c_spec_l5Split _ 32 _ (by first | (have := getD_len (s := s) (i := 0); rw [← show x2.l = splitC 59 s from hx2] at this; omega) | (have := getD_len (s := s) (i := 1); rw [← show x2.l = splitC 59 s from hx2] at this; omega) | (have := getD_len (s := s) (i := 2); rw [← show x2.l = splitC 59 s from hx2] at this; omega) | (have := getD_len (s := s) (i := 3); rw [← show x2.l = splitC 59 s from hx2] at this; omega))) ?_
    have hs0 := hs; clear hs; intro v w hb hR hs; clear hs
    obtain ⟨x13, rfl, hx13, hf13⟩ := hR
    obtain ⟨F13, hs⟩ := hf13.sat hs0 hb; clear hs0 hf13
    have hle13 := Sl.Ok.le (hs.okow (x := x13) (F := F13) Q1)
    refine WA.p (i := 4) Q0 Q6 Q6 Q6 Q0 (hs.only Q2) (fun w hs => Yl.slice_sl (s := x13) (l := 1) (h := x13.l.length) slt24 Q0 hle13 (by exact ⟨_, by rfl⟩) (by exact rfl) (by rw [hx13]; exact List.length_pos_iff.2 (splitC_ne _ _)) (by exact Nat.le_refl _)) ?_
    refine WA.call2 (i := 8) hs (fun _ hs => hs.only Q2) Q6 Q0 Q0 (Yc.func Q0 fn64) (c_spec_l5Split _ 32 _ (by first | (have := getD_len (s := s) (i := 0); rw [← show x2.l = splitC 59 s from hx2] at this; omega) | (have := getD_len (s := s) (i := 1); rw [← show x2.l = splitC 59 s from hx2] at this; omega) | (have := getD_len (s := s) (i := 2); rw [← show x2.l = splitC 59 s from hx2] at this; omega) | (have := getD_len (s := s) (i := 3); rw [← show x2.l = splitC 59 s from hx2] at this; omega))) ?_
    have hs0 := hs; clear hs; intro v w hb hR hs; clear hs
    obtain ⟨x14, rfl, hx14, hf14⟩ := hR
    obtain ⟨F14, hs⟩ := hf14.sat hs0 hb; clear hs0 hf14
    have hle14 := Sl.Ok.le (hs.okow (x := x14) (F := F14) Q1)
    refine WA.p (i := 9) Q0 Q6 Q6 Q6 Q0 (hs.only Q2) (fun w hs => Yl.slice_sl (s := x14) (l := 1) (h := x14.l.length) slt24 Q0 hle14 (by exact ⟨_, by rfl⟩) (by exact rfl) (by rw [hx14]; exact List.length_pos_iff.2 (splitC_ne _ _)) (by exact Nat.le_refl _)) ?_
    refine WA.call2 (i := 13) hs (fun _ hs => hs.only Q2) Q6 Q0 Q0 (Yc.func Q0 fn64) (c_spec_l5Split _ 32 _ (by first | (have := getD_len (s := s) (i := 0); rw [← show x2.l = splitC 59 s from hx2] at this; omega) | (have := getD_len (s := s) (i := 1); rw [← show x2.l = splitC 59 s from hx2] at this; omega) | (have := getD_len (s := s) (i := 2); rw [← show x2.l = splitC 59 s from hx2] at this; omega) | (have := getD_len (s := s) (i := 3); rw [← show x2.l = splitC 59 s from hx2] at this; omega))) ?_
    have hs0 := hs; clear hs; intro v w hb hR hs; clear hs
    obtain ⟨x15, rfl, hx15, hf15⟩ := hR
    obtain ⟨F15, hs⟩ := hf15.sat hs0 hb; clear hs0 hf15
    have hle15 := Sl.Ok.le (hs.okow (x := x15) (F := F15) Q1)
    refine WA.r (i := 14) Q6 Q0 Q0 (Yl.yr (Yl.slice_sl (s := x15) (l := 1) (h := x15.l.length) slt24 Q0 hle15 (by exact ⟨_, by rfl⟩) (by exact rfl) (by rw [hx15]; exact List.length_pos_iff.2 (splitC_ne _ _)) (by exact Nat.le_refl _))) (by rintro _ _ ⟨rfl, rfl⟩; exact hs.only Q2) ?_
    rintro _ _ ⟨rfl, rfl⟩
    refine WA.p (i := 15) Q0 Q6 Q6 Q6 Q0 (hs.only Q2) (fun w hs => Yl.build bt26 Q0 Q4) ?_
    refine WA.s (i := 17) Q6 Q0 (Yr.storeB hs Q0 Q0 Q0 Q5 Q3 Q0 (by exact szf26)) (by rintro _ w hs; exact hs.only Q2) ?_
    clear hs; rintro _ w hs
    refine WA.donen Q6 ?_
    refine WC.seq' ?_
    refine WC.seq ?_
    refine Qm ?_
    refine WL.p Q0 (Yl.len_sl slu24 Q0) ?_
    refine WL.p Q0 (Yl.gtr Q0 Q0) ?_
    refine Qm ?_
    refine WL.split (d := 34) Q0 (fun h3 => ?_) (fun h3 => ?_)
    ·
     replace h3 := of_decide_eq_true h3
     refine WL.run (d := 34) Q0 Q0 ?_
     refine Qm ?_
     refine WL.run (d := 34) Q0 Q0 ?_
     refine WL.p Q0 (Yl.indexAddr (k := 3) slt24 Q0 Q0 (hs.okow (x := x2) (F := F2) Q1) Q0 ((getD_some (i := 3) (z := ([] : Str)) Q7))) ?_
     refine WL.run (d := 34) Q0 Q0 ?_
     refine WL.p Q0 (Yl.loadC0 sca9 Q0 (Sl.Ok.at_ (hs.okow (x := x2) (F := F2) Q1) ((getD_some (i := 3) (z := ([] : Str)) Q7))).2 Q0) ?_
     refine WL.run (d := 34) Q0 Q0 ?_
     refine WL.p Q0 (Yl.len_str str9 Q0) ?_
     refine WL.run (d := 34) Q0 Q0 ?_
     refine WL.p Q0 (Yl.gtr Q0 Q0) ?_
     refine WL.p Q0 (Yl.pickT Q0 Q0) ?_
     refine WL.next ?_
     refine WC.condS Q0 (fun h4 => ?_) (fun h4 => ?_)
     ·
      replace h4 := of_decide_eq_true h4
      refine WC.region ?_
      refine Qm ?_
      refine WL.p Q0 (Yl.indexAddr (k := 3) slt24 Q0 Q0 (hs.okow (x := x2) (F := F2) Q1) Q0 ((getD_some (i := 3) (z := ([] : Str)) Q7))) ?_
      refine WL.p Q0 (Yl.loadC0 sca9 Q0 (Sl.Ok.at_ (hs.okow (x := x2) (F := F2) Q1) ((getD_some (i := 3) (z := ([] : Str)) Q7))).2 Q0) ?_
      refine WL.p Q0 (Yl.slice_str (l := 6) str9 Q0 (by exact ⟨_, by rfl⟩) (by exact rfl) Q7 Q7) ?_
      refine WL.p Q0 (Yl.fieldAddr fa26_4 Q0) ?_
      refine WL.s (Yr.storeB hs Q0 Q0 Q0 Q5 Q3 Q0 (by exact szf9)) ?_
      clear hs; rintro _ w hs
      refine WL.nil ?_
      refine At.then_ ?_
      refine WC.seq' ?_
      refine WC.seq ?_
      refine WL.p Q0 (Yl.loadAB agg26 Q0 hs Q1 Q0 Q0) ?_
      have hpl9 : PPolicy.lg (⟨true, (x13.cut 1 x13.l.length), (x14.cut 1 x14.l.length), (x15.cut 1 x15.l.length), (((x2.l.getD 3 []).drop 6).take ((x2.l.getD 3 []).length - 6))⟩ : PPolicy) = polS s := by
       have e2 : x2.l = splitC 59 s := hx2
       have g0 : x13.l = splitC 32 ((splitC 59 s).getD 0 []) := by rw [← e2]; exact hx13
       have g1 : x14.l = splitC 32 ((splitC 59 s).getD 1 []) := by rw [← e2]; exact hx14
       have g2 : x15.l = splitC 32 ((splitC 59 s).getD 2 []) := by rw [← e2]; exact hx15
       have c0 : (x13.cut 1 x13.l.length).l = (splitC 32 ((splitC 59 s).getD 0 [])).tail := by rw [Sl.cut_full, g0, List.drop_one]
       have c1 : (x14.cut 1 x14.l.length).l = (splitC 32 ((splitC 59 s).getD 1 [])).tail := by rw [Sl.cut_full, g1, List.drop_one]
       have c2 : (x15.cut 1 x15.l.length).l = (splitC 32 ((splitC 59 s).getD 2 [])).tail := by rw [Sl.cut_full, g2, List.drop_one]
       simp only [PPolicy.lg, polS, polOf, c0, c1, c2, TPolicy.mk.injEq, true_and]
       rw [← e2]
       first
        | (rw [if_neg (show ¬ 3 < x2.l.length from fun h => by omega)]; done)
        | (rw [if_pos (show 3 < x2.l.length from Int.ofNat_lt.1 Q7)]; done)
        | (rw [if_pos (show 3 < x2.l.length from Int.ofNat_lt.1 Q7)]
           simp only [nonceS, nonceI]
           first
             | (rfl; done)
             | (rw [if_neg Q7]; done)
             | (rw [if_pos Q7, List.take_of_length_le (by simp)]; done)
             | (rw [if_pos Q7]; done))
      refine WL.callp hs Q0 (Yc.func Q0 fn62) (c_spec_FormatPolicy (⟨true, (x13.cut 1 x13.l.length), (x14.cut 1 x14.l.length), (x15.cut 1 x15.l.length), (((x2.l.getD 3 []).drop 6).take ((x2.l.getD 3 []).length - 6))⟩ : PPolicy) _ ⟨trivial, (Sl.Ok.cut (hs.okow (x := x13) (F := F13) Q1) (by rw [hx13]; exact List.length_pos_iff.2 (splitC_ne _ _)) (by exact Nat.le_refl _)), (Sl.Ok.cut (hs.okow (x := x14) (F := F14) Q1) (by rw [hx14]; exact List.length_pos_iff.2 (splitC_ne _ _)) (by exact Nat.le_refl _)), (Sl.Ok.cut (hs.okow (x := x15) (F := F15) Q1) (by rw [hx15]; exact List.length_pos_iff.2 (splitC_ne _ _)) (by exact Nat.le_refl _)), (by show WfS _; unfold WfS; simp only [List.length_take, List.length_drop]; omega)⟩ (by rw [hpl9]; have := polS_size (s := s) (by rw [← show x2.l = splitC 59 s from hx2]; omega); omega)) ?_
      clear hs; intro w hs
      refine Qm ?_
      refine WL.p Q0 (Yl.nes Q0 Q0) ?_
      refine WL.next ?_
      refine WC.condS Q0 (fun h5 => ?_) (fun h5 => ?_)
      ·
       replace h5 := not_eq_true h5
       replace h5 := of_decide_eq_false h5
       refine WC.seq ?_
       refine WL.p Q0 (Yl.build bt26 Q0 Q4) ?_
       refine WL.s (Yr.storeB hs Q0 Q0 Q0 Q5 Q3 Q0 (by exact szf26)) ?_
       clear hs; rintro _ w hs
       refine Qa ?_
       refine WL.next ?_
       refine WC.ret ?_
       refine At.thenret ?_
       refine fin2c rfl agg26 Q0 Q0 hs Q1 Q0 ?_
       refine Ret.mk hs ?_
       rw [hpl9] at h5
       have hb9 : policyIs s = false := policyIs_bad h1 h5
       exact ⟨⟨false, ⟨[], none, 0⟩, ⟨[], none, 0⟩, ⟨[], none, 0⟩, []⟩, by rw [hb9]; rfl, (policyOf_no (.inr hb9)).symm, ⟨⟨[], PPolicy.zown _, .nil, fun b h => by cases h⟩⟩⟩
      ·
       replace h5 := not_eq_false h5
       replace h5 := of_decide_eq_true h5
       refine WC.skipn ?_
       refine WC.seq ?_
       refine WL.p Q0 (Yl.loadAB agg26 Q0 hs Q1 Q0 Q0) ?_
       refine WL.s (Yr.storeB hs Q0 Q0 Q0 Q5 Q3 Q0 (by exact szf26)) ?_
       clear hs; rintro _ w hs
       refine Qa ?_
       refine WL.next ?_
       refine WC.ret ?_
       refine fin2c rfl agg26 Q0 Q0 hs Q1 Q0 ?_
       refine Ret.mk hs ?_
       rw [hpl9] at h5
       have hq9 : x2.l = splitC 59 s := hx2
       have h49 : 3 ≤ (splitC 59 s).length := by rw [← hq9]; omega
       have hb9 : policyIs s = true := policyIs_good h5 h49
       obtain ⟨G90, hs⟩ := Sat.cutow (lo := 1) (hi := x13.l.length) (hs.sel (D := [ow x13 F13]) Q2) (by rw [hx13]; exact List.length_pos_iff.2 (splitC_ne _ _)) (Nat.le_refl _)
       obtain ⟨G91, hs⟩ := Sat.cutow (lo := 1) (hi := x14.l.length) (hs.sel (D := [ow x14 F14]) Q2) (by rw [hx14]; exact List.length_pos_iff.2 (splitC_ne _ _)) (Nat.le_refl _)
       obtain ⟨G92, hs⟩ := Sat.cutow (lo := 1) (hi := x15.l.length) (hs.sel (D := [ow x15 F15]) Q2) (by rw [hx15]; exact List.length_pos_iff.2 (splitC_ne _ _)) (Nat.le_refl _)
       refine ⟨(⟨true, (x13.cut 1 x13.l.length), (x14.cut 1 x14.l.length), (x15.cut 1 x15.l.length), (((x2.l.getD 3 []).drop 6).take ((x2.l.getD 3 []).length - 6))⟩ : PPolicy), by rw [hb9]; rfl, hpl9.trans (policyOf_good h1 hb9).symm, ?_⟩
       exact (PPolicy.join _ (hs.only (D := [ow (x13.cut 1 x13.l.length) G90, ow (x14.cut 1 x14.l.length) G91, ow (x15.cut 1 x15.l.length) G92]) Q2) trivial (by show WfS _; unfold WfS; first | (simp only [List.length_take, List.length_drop]; omega) | simp)).fresh List.mem_cons_self
     ·
      replace h4 := of_decide_eq_false h4
      refine WC.skipn ?_
      refine WC.seq' ?_
      refine WC.seq ?_
      refine WL.p Q0 (Yl.loadAB agg26 Q0 hs Q1 Q0 Q0) ?_
      have hpl9 : PPolicy.lg (⟨true, (x13.cut 1 x13.l.length), (x14.cut 1 x14.l.length), (x15.cut 1 x15.l.length), ([] : Str)⟩ : PPolicy) = polS s := by
       have e2 : x2.l = splitC 59 s := hx2
       have g0 : x13.l = splitC 32 ((splitC 59 s).getD 0 []) := by rw [← e2]; exact hx13
       have g1 : x14.l = splitC 32 ((splitC 59 s).getD 1 []) := by rw [← e2]; exact hx14
       have g2 : x15.l = splitC 32 ((splitC 59 s).getD 2 []) := by rw [← e2]; exact hx15
       have c0 : (x13.cut 1 x13.l.length).l = (splitC 32 ((splitC 59 s).getD 0 [])).tail := by rw [Sl.cut_full, g0, List.drop_one]
       have c1 : (x14.cut 1 x14.l.length).l = (splitC 32 ((splitC 59 s).getD 1 [])).tail := by rw [Sl.cut_full, g1, List.drop_one]
       have c2 : (x15.cut 1 x15.l.length).l = (splitC 32 ((splitC 59 s).getD 2 [])).tail := by rw [Sl.cut_full, g2, List.drop_one]
       simp only [PPolicy.lg, polS, polOf, c0, c1, c2, TPolicy.mk.injEq, true_and]
       rw [← e2]
       first
        | (rw [if_neg (show ¬ 3 < x2.l.length from fun h => by omega)]; done)
        | (rw [if_pos (show 3 < x2.l.length from Int.ofNat_lt.1 Q7)]; done)
        | (rw [if_pos (show 3 < x2.l.length from Int.ofNat_lt.1 Q7)]
           simp only [nonceS, nonceI]
           first
             | (rfl; done)
             | (rw [if_neg Q7]; done)
             | (rw [if_pos Q7, List.take_of_length_le (by simp)]; done)
             | (rw [if_pos Q7]; done))
      refine WL.callp hs Q0 (Yc.func Q0 fn62) (c_spec_FormatPolicy (⟨true, (x13.cut 1 x13.l.length), (x14.cut 1 x14.l.length), (x15.cut 1 x15.l.length), ([] : Str)⟩ : PPolicy) _ ⟨trivial, (Sl.Ok.cut (hs.okow (x := x13) (F := F13) Q1) (by rw [hx13]; exact List.length_pos_iff.2 (splitC_ne _ _)) (by exact Nat.le_refl _)), (Sl.Ok.cut (hs.okow (x := x14) (F := F14) Q1) (by rw [hx14]; exact List.length_pos_iff.2 (splitC_ne _ _)) (by exact Nat.le_refl _)), (Sl.Ok.cut (hs.okow (x := x15) (F := F15) Q1) (by rw [hx15]; exact List.length_pos_iff.2 (splitC_ne _ _)) (by exact Nat.le_refl _)), (show WfS [] from Nat.zero_le _)⟩ (by rw [hpl9]; have := polS_size (s := s) (by rw [← show x2.l = splitC 59 s from hx2]; omega); omega)) ?_
      clear hs; intro w hs
      refine Qm ?_
      refine WL.p Q0 (Yl.nes Q0 Q0) ?_
      refine WL.next ?_
      refine WC.condS Q0 (fun h5 => ?_) (fun h5 => ?_)
      ·
       replace h5 := not_eq_true h5
       replace h5 := of_decide_eq_false h5
       refine WC.seq ?_
       refine WL.p Q0 (Yl.build bt26 Q0 Q4) ?_
       refine WL.s (Yr.storeB hs Q0 Q0 Q0 Q5 Q3 Q0 (by exact szf26)) ?_
       clear hs; rintro _ w hs
       refine Qa ?_
       refine WL.next ?_
       refine WC.ret ?_
       refine At.thenret ?_
       refine fin2c rfl agg26 Q0 Q0 hs Q1 Q0 ?_
       refine Ret.mk hs ?_
       rw [hpl9] at h5
       have hb9 : policyIs s = false := policyIs_bad h1 h5
       exact ⟨⟨false, ⟨[], none, 0⟩, ⟨[], none, 0⟩, ⟨[], none, 0⟩, []⟩, by rw [hb9]; rfl, (policyOf_no (.inr hb9)).symm, ⟨⟨[], PPolicy.zown _, .nil, fun b h => by cases h⟩⟩⟩
      ·
       replace h5 := not_eq_false h5
       replace h5 := of_decide_eq_true h5
       refine WC.skipn ?_
       refine WC.seq ?_
       refine WL.p Q0 (Yl.loadAB agg26 Q0 hs Q1 Q0 Q0) ?_
       refine WL.s (Yr.storeB hs Q0 Q0 Q0 Q5 Q3 Q0 (by exact szf26)) ?_
       clear hs; rintro _ w hs
       refine Qa ?_
       refine WL.next ?_
       refine WC.ret ?_
       refine fin2c rfl agg26 Q0 Q0 hs Q1 Q0 ?_
       refine Ret.mk hs ?_
       rw [hpl9] at h5
       have hq9 : x2.l = splitC 59 s := hx2
       have h49 : 3 ≤ (splitC 59 s).length := by rw [← hq9]; omega
       have hb9 : policyIs s = true := policyIs_good h5 h49
       obtain ⟨G90, hs⟩ := Sat.cutow (lo := 1) (hi := x13.l.length) (hs.sel (D := [ow x13 F13]) Q2) (by rw [hx13]; exact List.length_pos_iff.2 (splitC_ne _ _)) (Nat.le_refl _)
       obtain ⟨G91, hs⟩ := Sat.cutow (lo := 1) (hi := x14.l.length) (hs.sel (D := [ow x14 F14]) Q2) (by rw [hx14]; exact List.length_pos_iff.2 (splitC_ne _ _)) (Nat.le_refl _)
       obtain ⟨G92, hs⟩ := Sat.cutow (lo := 1) (hi := x15.l.length) (hs.sel (D := [ow x15 F15]) Q2) (by rw [hx15]; exact List.length_pos_iff.2 (splitC_ne _ _)) (Nat.le_refl _)
       refine ⟨(⟨true, (x13.cut 1 x13.l.length), (x14.cut 1 x14.l.length), (x15.cut 1 x15.l.length), ([] : Str)⟩ : PPolicy), by rw [hb9]; rfl, hpl9.trans (policyOf_good h1 hb9).symm, ?_⟩
       exact (PPolicy.join _ (hs.only (D := [ow (x13.cut 1 x13.l.length) G90, ow (x14.cut 1 x14.l.length) G91, ow (x15.cut 1 x15.l.length) G92]) Q2) trivial (by show WfS _; unfold WfS; first | (simp only [List.length_take, List.length_drop]; omega) | simp)).fresh List.mem_cons_self
    ·
     replace h3 := of_decide_eq_false h3
     refine WL.skip (d := 34) Q0 Q0 Q0 Q0 ?_
     refine WL.skip (d := 34) Q0 Q0 Q0 Q0 ?_
     refine WL.skip (d := 34) Q0 Q0 Q0 Q0 ?_
     refine WL.skip (d := 34) Q0 Q0 Q0 Q0 ?_
     refine WL.skip (d := 34) Q0 Q0 Q0 Q0 ?_
     refine WL.p Q0 (Yl.pickF Q0 Q0) ?_
     refine WL.next ?_
     refine WC.condF Q0 ?_
     refine WC.skipn ?_
     refine WC.seq' ?_
     refine WC.seq ?_
     refine WL.p Q0 (Yl.loadAB agg26 Q0 hs Q1 Q0 Q0) ?_
     have hpl9 : PPolicy.lg (⟨true, (x13.cut 1 x13.l.length), (x14.cut 1 x14.l.length), (x15.cut 1 x15.l.length), ([] : Str)⟩ : PPolicy) = polS s := by
      have e2 : x2.l = splitC 59 s := hx2
      have g0 : x13.l = splitC 32 ((splitC 59 s).getD 0 []) := by rw [← e2]; exact hx13
      have g1 : x14.l = splitC 32 ((splitC 59 s).getD 1 []) := by rw [← e2]; exact hx14
      have g2 : x15.l = splitC 32 ((splitC 59 s).getD 2 []) := by rw [← e2]; exact hx15
      have c0 : (x13.cut 1 x13.l.length).l = (splitC 32 ((splitC 59 s).getD 0 [])).tail := by rw [Sl.cut_full, g0, List.drop_one]
      have c1 : (x14.cut 1 x14.l.length).l = (splitC 32 ((splitC 59 s).getD 1 [])).tail := by rw [Sl.cut_full, g1, List.drop_one]
      have c2 : (x15.cut 1 x15.l.length).l = (splitC 32 ((splitC 59 s).getD 2 [])).tail := by rw [Sl.cut_full, g2, List.drop_one]
      simp only [PPolicy.lg, polS, polOf, c0, c1, c2, TPolicy.mk.injEq, true_and]
      rw [← e2]
      first
       | (rw [if_neg (show ¬ 3 < x2.l.length from fun h => by omega)]; done)
       | (rw [if_pos (show 3 < x2.l.length from Int.ofNat_lt.1 Q7)]; done)
       | (rw [if_pos (show 3 < x2.l.length from Int.ofNat_lt.1 Q7)]
          simp only [nonceS, nonceI]
          first
            | (rfl; done)
            | (rw [if_neg Q7]; done)
            | (rw [if_pos Q7, List.take_of_length_le (by simp)]; done)
            | (rw [if_pos Q7]; done))
     refine WL.callp hs Q0 (Yc.func Q0 fn62) (c_spec_FormatPolicy (⟨true, (x13.cut 1 x13.l.length), (x14.cut 1 x14.l.length), (x15.cut 1 x15.l.length), ([] : Str)⟩ : PPolicy) _ ⟨trivial, (Sl.Ok.cut (hs.okow (x := x13) (F := F13) Q1) (by rw [hx13]; exact List.length_pos_iff.2 (splitC_ne _ _)) (by exact Nat.le_refl _)), (Sl.Ok.cut (hs.okow (x := x14) (F := F14) Q1) (by rw [hx14]; exact List.length_pos_iff.2 (splitC_ne _ _)) (by exact Nat.le_refl _)), (Sl.Ok.cut (hs.okow (x := x15) (F := F15) Q1) (by rw [hx15]; exact List.length_pos_iff.2 (splitC_ne _ _)) (by exact Nat.le_refl _)), (show WfS [] from Nat.zero_le _)⟩ (by rw [hpl9]; have := polS_size (s := s) (by rw [← show x2.l = splitC 59 s from hx2]; omega); omega)) ?_
     clear hs; intro w hs
     refine Qm ?_
     refine WL.p Q0 (Yl.nes Q0 Q0) ?_
     refine WL.next ?_
     refine WC.condS Q0 (fun h4 => ?_) (fun h4 => ?_)
     ·
      replace h4 := not_eq_true h4
      replace h4 := of_decide_eq_false h4
      refine WC.seq ?_
      refine WL.p Q0 (Yl.build bt26 Q0 Q4) ?_
      refine WL.s (Yr.storeB hs Q0 Q0 Q0 Q5 Q3 Q0 (by exact szf26)) ?_
      clear hs; rintro _ w hs
      refine Qa ?_
      refine WL.next ?_
      refine WC.ret ?_
      refine At.thenret ?_
      refine fin2c rfl agg26 Q0 Q0 hs Q1 Q0 ?_
      refine Ret.mk hs ?_
      rw [hpl9] at h4
      have hb9 : policyIs s = false := policyIs_bad h1 h4
      exact ⟨⟨false, ⟨[], none, 0⟩, ⟨[], none, 0⟩, ⟨[], none, 0⟩, []⟩, by rw [hb9]; rfl, (policyOf_no (.inr hb9)).symm, ⟨⟨[], PPolicy.zown _, .nil, fun b h => by cases h⟩⟩⟩
     ·
      replace h4 := not_eq_false h4
      replace h4 := of_decide_eq_true h4
      refine WC.skipn ?_
      refine WC.seq ?_
      refine WL.p Q0 (Yl.loadAB agg26 Q0 hs Q1 Q0 Q0) ?_
      refine WL.s (Yr.storeB hs Q0 Q0 Q0 Q5 Q3 Q0 (by exact szf26)) ?_
      clear hs; rintro _ w hs
      refine Qa ?_
      refine WL.next ?_
      refine WC.ret ?_
      refine fin2c rfl agg26 Q0 Q0 hs Q1 Q0 ?_
      refine Ret.mk hs ?_
      rw [hpl9] at h4
      have hq9 : x2.l = splitC 59 s := hx2
      have h49 : 3 ≤ (splitC 59 s).length := by rw [← hq9]; omega
      have hb9 : policyIs s = true := policyIs_good h4 h49
      obtain ⟨G90, hs⟩ := Sat.cutow (lo := 1) (hi := x13.l.length) (hs.sel (D := [ow x13 F13]) Q2) (by rw [hx13]; exact List.length_pos_iff.2 (splitC_ne _ _)) (Nat.le_refl _)
      obtain ⟨G91, hs⟩ := Sat.cutow (lo := 1) (hi := x14.l.length) (hs.sel (D := [ow x14 F14]) Q2) (by rw [hx14]; exact List.length_pos_iff.2 (splitC_ne _ _)) (Nat.le_refl _)
      obtain ⟨G92, hs⟩ := Sat.cutow (lo := 1) (hi := x15.l.length) (hs.sel (D := [ow x15 F15]) Q2) (by rw [hx15]; exact List.length_pos_iff.2 (splitC_ne _ _)) (Nat.le_refl _)
      refine ⟨(⟨true, (x13.cut 1 x13.l.length), (x14.cut 1 x14.l.length), (x15.cut 1 x15.l.length), ([] : Str)⟩ : PPolicy), by rw [hb9]; rfl, hpl9.trans (policyOf_good h1 hb9).symm, ?_⟩
      exact (PPolicy.join _ (hs.only (D := [ow (x13.cut 1 x13.l.length) G90, ow (x14.cut 1 x14.l.length) G91, ow (x15.cut 1 x15.l.length) G92]) Q2) trivial (by show WfS _; unfold WfS; first | (simp only [List.length_take, List.length_drop]; omega) | simp)).fresh List.mem_cons_self

theorem c_spec_IsResponse (x : TResponse) (w : World) (h_x : Ph.ok w x) (hb : x.policy.length ≤ 1048576) : Calls Tryd.prog 44 [.agg #[I x.status, I x.kind, S x.body, I x.age, Bo x.shares, S x.policy]].toArray w (RetP w (Bo x.isv)) := by
 refine enterN 33 Tryd.func44 rfl rfl rfl ?_
 have hs := Sat.start w
 refine WC.seq ?_
 refine WL.r Q0 (Yr.box hs Q0 Q0) ?_
 clear hs; rintro _ w ⟨b1, rfl, hb, hs⟩; clear hb
 refine Qa ?_
 refine WL.next ?_
 refine WC.seq ?_
 refine WL.p Q0 (Yl.fieldAddr fa45_5 Q0) ?_
 refine WL.p Q0 (Yl.loadB sca9 Q0 hs Q1 Q0) ?_
 refine WL.call hs Q0 (Yc.func Q0 fn15) (c_spec_ParsePolicy _ _ Q10) ?_
 have hs0 := hs; clear hs; intro v w hb hR hs; clear hs
 obtain ⟨x2, rfl, hx2, hf2⟩ := hR
 obtain ⟨F2, hs⟩ := hf2.sat hs0 hb; clear hs0 hf2
 refine Qm ?_
 refine WL.p Q0 (Yl.extract Q0 Q0) ?_
 refine WL.p Q0 (Yl.extract Q0 Q0) ?_
 refine WL.r Q0 (Yr.alloc hs zt26) ?_
 clear hs; rintro _ w ⟨b3, rfl, hb, hs⟩; clear hb
 refine WL.s (Yr.storeB hs Q0 Q0 Q0 Q5 Q3 Q0 (by exact szf26)) ?_
 clear hs; rintro _ w hs
 refine Qa ?_
 refine WL.next ?_
 refine WC.seq ?_
 refine WL.p Q0 (Yl.fieldAddr fa45_0 Q0) ?_
 refine WL.p Q0 (Yl.loadB sca3 Q0 hs Q1 Q0) ?_
 refine WL.callp hs Q0 (Yc.func Q0 fn76) (c_spec_l1In _ _ _ _) ?_
 clear hs; intro w hs
 refine Qm ?_
 refine WL.split (d := 14) Q0 (fun h1 => ?_) (fun h1 => ?_)
 ·
  replace h1 := inR_true.1 h1
  refine WL.run (d := 14) Q0 Q0 ?_
  refine WL.p Q0 (Yl.fieldAddr fa45_1 Q0) ?_
  refine WL.run (d := 14) Q0 Q0 ?_
  refine WL.p Q0 (Yl.loadB sca3 Q0 hs Q1 Q0) ?_
  refine WL.run (d := 14) Q0 Q0 ?_
  refine WL.callp hs Q0 (Yc.func Q0 fn76) (c_spec_l1In _ _ _ _) ?_
  clear hs; intro w hs
  refine WL.p Q0 (Yl.pickT Q0 Q0) ?_
  refine Qm ?_
  refine WL.split (d := 19) Q0 (fun h2 => ?_) (fun h2 => ?_)
  ·
   replace h2 := inR_true.1 h2
   refine WL.run (d := 19) Q0 Q0 ?_
   refine WL.p Q0 (Yl.fieldAddr fa45_2 Q0) ?_
   refine WL.run (d := 19) Q0 Q0 ?_
   refine WL.p Q0 (Yl.loadB sca9 Q0 hs Q1 Q0) ?_
   refine WL.run (d := 19) Q0 Q0 ?_
   refine WL.p Q0 (Yl.len_str str9 Q0) ?_
   refine WL.run (d := 19) Q0 Q0 ?_
   refine WL.p Q0 (Yl.leq Q0 Q0) ?_
   refine WL.p Q0 (Yl.pickT Q0 Q0) ?_
   refine Qm ?_
   refine WL.split (d := 25) Q0 (fun h3 => ?_) (fun h3 => ?_)
   ·
    replace h3 := of_decide_eq_true h3
    refine WL.run (d := 25) Q0 Q0 ?_
    refine WL.p Q0 (Yl.fieldAddr fa45_3 Q0) ?_
    refine WL.run (d := 25) Q0 Q0 ?_
    refine WL.p Q0 (Yl.loadB sca3 Q0 hs Q1 Q0) ?_
    refine WL.run (d := 25) Q0 Q0 ?_
    refine WL.callp hs Q0 (Yc.func Q0 fn76) (c_spec_l1In _ _ _ _) ?_
    clear hs; intro w hs
    refine WL.p Q0 (Yl.pickT Q0 Q0) ?_
    refine Qm ?_
    refine WL.split (d := 30) Q0 (fun h4 => ?_) (fun h4 => ?_)
    ·
     replace h4 := inR_true.1 h4
     refine WL.run (d := 30) Q0 Q0 ?_
     refine Qm ?_
     refine WL.p Q0 (Yl.pickT Q0 Q0) ?_
     refine Qa ?_
     refine WL.next ?_
     refine WC.ret ?_
     refine fin1' rfl Q0 ?_
     refine RetP.mk hs ?_
     clear hs hb h_x
     try simp only [← inR_true] at *
     try simp only [← inR_false] at *
     simp_all [TResponse.isv]
     try (intro hh; omega)
    ·
     replace h4 := inR_false.1 h4
     refine WL.skip (d := 30) Q0 Q0 Q0 Q0 ?_
     refine WL.p Q0 (Yl.pickF Q0 Q0) ?_
     refine Qa ?_
     refine WL.next ?_
     refine WC.ret ?_
     refine fin1' rfl Q0 ?_
     refine RetP.mk hs ?_
     clear hs hb h_x
     try simp only [← inR_true] at *
     try simp only [← inR_false] at *
     simp_all [TResponse.isv]
     try (intro hh; omega)
   ·
    replace h3 := of_decide_eq_false h3
    refine WL.skip (d := 25) Q0 Q0 Q0 Q0 ?_
    refine WL.skip (d := 25) Q0 Q0 Q0 Q0 ?_
    refine WL.skip (d := 25) Q0 Q0 Q0 Q0 ?_
    refine WL.p Q0 (Yl.pickF Q0 Q0) ?_
    refine Qm ?_
    refine WL.skip (d := 30) Q0 Q0 Q0 Q0 ?_
    refine WL.p Q0 (Yl.pickF Q0 Q0) ?_
    refine Qa ?_
    refine WL.next ?_
    refine WC.ret ?_
    refine fin1' rfl Q0 ?_
    refine RetP.mk hs ?_
    clear hs hb h_x
    try simp only [← inR_true] at *
    try simp only [← inR_false] at *
    simp_all [TResponse.isv]
    try (intro hh; omega)
  ·
   replace h2 := inR_false.1 h2
   refine WL.skip (d := 19) Q0 Q0 Q0 Q0 ?_
   refine WL.skip (d := 19) Q0 Q0 Q0 Q0 ?_
   refine WL.skip (d := 19) Q0 Q0 Q0 Q0 ?_
   refine WL.skip (d := 19) Q0 Q0 Q0 Q0 ?_
   refine WL.p Q0 (Yl.pickF Q0 Q0) ?_
   refine Qm ?_
   refine WL.skip (d := 25) Q0 Q0 Q0 Q0 ?_
   refine WL.skip (d := 25) Q0 Q0 Q0 Q0 ?_
   refine WL.skip (d := 25) Q0 Q0 Q0 Q0 ?_
   refine WL.p Q0 (Yl.pickF Q0 Q0) ?_
   refine Qm ?_
   refine WL.skip (d := 30) Q0 Q0 Q0 Q0 ?_
   refine WL.p Q0 (Yl.pickF Q0 Q0) ?_
   refine Qa ?_
   refine WL.next ?_
   refine WC.ret ?_
   refine fin1' rfl Q0 ?_
   refine RetP.mk hs ?_
   clear hs hb h_x
   try simp only [← inR_true] at *
   try simp only [← inR_false] at *
   simp_all [TResponse.isv]
   try (intro hh; omega)
 ·
  replace h1 := inR_false.1 h1
  refine WL.skip (d := 14) Q0 Q0 Q0 Q0 ?_
  refine WL.skip (d := 14) Q0 Q0 Q0 Q0 ?_
  refine WL.skip (d := 14) Q0 Q0 Q0 Q0 ?_
  refine WL.p Q0 (Yl.pickF Q0 Q0) ?_
  refine Qm ?_
  refine WL.skip (d := 19) Q0 Q0 Q0 Q0 ?_
  refine WL.skip (d := 19) Q0 Q0 Q0 Q0 ?_
  refine WL.skip (d := 19) Q0 Q0 Q0 Q0 ?_
  refine WL.skip (d := 19) Q0 Q0 Q0 Q0 ?_
  refine WL.p Q0 (Yl.pickF Q0 Q0) ?_
  refine Qm ?_
  refine WL.skip (d := 25) Q0 Q0 Q0 Q0 ?_
  refine WL.skip (d := 25) Q0 Q0 Q0 Q0 ?_
  refine WL.skip (d := 25) Q0 Q0 Q0 Q0 ?_
  refine WL.p Q0 (Yl.pickF Q0 Q0) ?_
  refine Qm ?_
  refine WL.skip (d := 30) Q0 Q0 Q0 Q0 ?_
  refine WL.p Q0 (Yl.pickF Q0 Q0) ?_
  refine Qa ?_
  refine WL.next ?_
  refine WC.ret ?_
  refine fin1' rfl Q0 ?_
  refine RetP.mk hs ?_
  clear hs hb h_x
  try simp only [← inR_true] at *
  try simp only [← inR_false] at *
  simp_all [TResponse.isv]
  try (intro hh; omega)

theorem c_spec_IsServer (s : PServer) (w : World) (h_s : Ph.ok w s) (hp : ∀ f ∈ s.files.l, f.response.policy.length ≤ 1048576) : Calls Tryd.prog 93 [.agg #[S s.host, Sl.v s.files]].toArray w (RetP w (Bo (serverOk s.lg))) := by
 have hw := h_s.files.lt
 refine enterN 57 Tryd.func93 rfl rfl rfl ?_
 have hs := Sat.start w
 refine WC.seq ?_
 refine WL.r Q0 (Yr.box hs Q0 Q0) ?_
 clear hs; rintro _ w ⟨b1, rfl, hb, hs⟩; clear hb
 refine Qa ?_
 refine WL.next ?_
 refine WC.seq' ?_
 refine WC.seq ?_
 refine Qa ?_
 refine WL.next ?_
 refine WC.block ?_
 refine WC.loopC (ι := Nat) (fun k => s.files.l.length - k) (fun k => [(3, I (k : Int))]) (fun _ => []) (fun k => uniqF fileOk sameFile [] s.files.l = uniqF fileOk sameFile (s.files.l.take k) (s.files.l.drop k)) [(0, _), (1, _)] 0 (hs) ⟨by rfl, by rfl, trivial⟩ ⟨by rfl, trivial⟩ ?_ ?_
 ·
  simp
 clear hs; rintro k w hJ hs
 simp only [List.nil_append] at hs
 refine WC.seq' ?_
 refine WC.seq ?_
 refine Qm ?_
 refine WL.p Q0 (Yl.fieldAddr fa112_1 Q0) ?_
 refine WL.p Q0 (Yl.loadB sca110 Q0 hs Q1 Q0) ?_
 refine WL.p Q0 (Yl.len_sl slu110 Q0) ?_
 refine WL.p Q0 (Yl.lss Q0 Q0) ?_
 refine WL.next ?_
 refine WC.condS Q0 (fun h1 => ?_) (fun h1 => ?_)
 ·
  replace h1 := of_decide_eq_true h1
  obtain ⟨d, hd⟩ := exists_get (l := s.files.l) (k := k) Q7
  rw [uniq_step hd] at hJ
  have hpd : d.response.policy.length ≤ 1048576 := hp d (List.mem_of_getElem? hd)
  refine WC.skipn ?_
  refine WC.seq' ?_
  refine WC.block ?_
  refine WC.seq' ?_
  refine WC.seq ?_
  refine WL.p Q0 (Yl.fieldAddr fa112_1 Q0) ?_
  refine WL.p Q0 (Yl.loadB sca110 Q0 hs Q1 Q0) ?_
  refine Qm ?_
  refine WL.p Q0 (Yl.indexAddr slt110 Q0 Q0 (Ph.old h_s.files hs) Q0 (hd)) ?_
  refine WL.p Q0 (Yl.fieldAddr fa115_0 Q0) ?_
  refine WL.p Q0 (Yl.loadC sca9 Q0 (Sl.Ok.at_ (Ph.old h_s.files hs) (by assumption)).2 Q0) ?_
  refine WL.callp hs Q0 (Yc.func Q0 fn112) (c_spec_IsName _ _ (Ph.old (Sl.Ok.elem h_s.files hd).path hs)) ?_
  clear hs; intro w hs
  refine WL.p Q0 (Yl.not Q0) ?_
  refine Qm ?_
  refine WL.split (d := 20) Q0 (fun h2 => ?_) (fun h2 => ?_)
  ·
   replace h2 := not_eq_true h2
   refine WL.skip (d := 20) Q0 Q0 Q0 Q0 ?_
   refine WL.skip (d := 20) Q0 Q0 Q0 Q0 ?_
   refine WL.skip (d := 20) Q0 Q0 Q0 Q0 ?_
   refine WL.skip (d := 20) Q0 Q0 Q0 Q0 ?_
   refine WL.skip (d := 20) Q0 Q0 Q0 Q0 ?_
   refine WL.skip (d := 20) Q0 Q0 Q0 Q0 ?_
   refine WL.skip (d := 20) Q0 Q0 Q0 Q0 ?_
   refine WL.skip (d := 20) Q0 Q0 Q0 Q0 ?_
   refine WL.p Q0 (Yl.pickT Q0 Q0) ?_
   refine WL.next ?_
   refine WC.condT Q0 ?_
   refine WC.seq ?_
   refine Qa ?_
   refine WL.next ?_
   refine WC.ret ?_
   refine At.thenret ?_
   refine At.blockret ?_
   refine At.thenret ?_
   refine At.thenret ?_
   refine At.blockret ?_
   refine At.thenret ?_
   refine fin1' rfl Q0 ?_
   refine RetP.mk hs ?_
   simp only [serverOk, filesOk]
   simp_all [fileOk, sameFile]
   try omega
  ·
   replace h2 := not_eq_false h2
   refine WL.run (d := 20) Q0 Q0 ?_
   refine WL.p Q0 (Yl.fieldAddr fa112_1 Q0) ?_
   refine WL.run (d := 20) Q0 Q0 ?_
   refine WL.p Q0 (Yl.loadB sca110 Q0 hs Q1 Q0) ?_
   refine WL.run (d := 20) Q0 Q0 ?_
   refine Qm ?_
   refine WL.run (d := 20) Q0 Q0 ?_
   refine WL.p Q0 (Yl.indexAddr slt110 Q0 Q0 (Ph.old h_s.files hs) Q0 (hd)) ?_
   refine WL.run (d := 20) Q0 Q0 ?_
   refine WL.p Q0 (Yl.fieldAddr fa115_1 Q0) ?_
   refine WL.run (d := 20) Q0 Q0 ?_
   refine WL.p Q0 (Yl.loadAC agg45 Q0 (Sl.Ok.at_ (Ph.old h_s.files hs) (by assumption)).2 Q0 Q0) ?_
   refine WL.run (d := 20) Q0 Q0 ?_
   refine WL.callp hs Q0 (Yc.func Q0 fn44) (c_spec_IsResponse _ _ ⟨(Ph.old (Sl.Ok.elem h_s.files hd).response.status hs), (Ph.old (Sl.Ok.elem h_s.files hd).response.kind hs), (Ph.old (Sl.Ok.elem h_s.files hd).response.body hs), (Ph.old (Sl.Ok.elem h_s.files hd).response.age hs), (Ph.old (Sl.Ok.elem h_s.files hd).response.shares hs), (Ph.old (Sl.Ok.elem h_s.files hd).response.policy hs)⟩ (by first | assumption | omega)) ?_
   clear hs; intro w hs
   refine WL.run (d := 20) Q0 Q0 ?_
   refine WL.p Q0 (Yl.not Q0) ?_
   refine WL.p Q0 (Yl.pickF Q0 Q0) ?_
   refine WL.next ?_
   refine WC.condS Q0 (fun h3 => ?_) (fun h3 => ?_)
   ·
    replace h3 := not_eq_true h3
    refine WC.seq ?_
    refine Qa ?_
    refine WL.next ?_
    refine WC.ret ?_
    refine At.thenret ?_
    refine At.blockret ?_
    refine At.thenret ?_
    refine At.thenret ?_
    refine At.blockret ?_
    refine At.thenret ?_
    refine fin1' rfl Q0 ?_
    refine RetP.mk hs ?_
    simp only [serverOk, filesOk]
    simp_all [fileOk, sameFile]
    try omega
   ·
    replace h3 := not_eq_false h3
    refine WC.skipn ?_
    refine WC.seq ?_
    refine Qa ?_
    refine WL.next ?_
    refine WC.block ?_
    refine WC.loopC (ι := Nat) (fun m => k - m) (fun m => [(4, I (m : Int))]) (fun _ => []) (fun m => (s.files.l.take k).any (sameFile d) = ((s.files.l.take k).drop m).any (sameFile d)) [(0, _), (1, _), (3, _), (9, _), (29, _)] 0 (hs) ⟨by rfl, by rfl, by rfl, by rfl, by rfl, trivial⟩ ⟨by rfl, trivial⟩ ?_ ?_
    ·
     simp
    clear hs; rintro m w hJ2 hs
    simp only [List.nil_append] at hs
    refine WC.seq' ?_
    refine WC.seq ?_
    refine Qm ?_
    refine Qm ?_
    refine WL.p Q0 (Yl.lss Q0 Q0) ?_
    refine WL.next ?_
    refine WC.condS Q0 (fun h4 => ?_) (fun h4 => ?_)
    ·
     replace h4 := of_decide_eq_true h4
     obtain ⟨d2, hd2⟩ := exists_get (l := s.files.l) (k := m) Q7
     have hd3 : (s.files.l.take k)[m]? = some d2 := by rw [List.getElem?_take_of_lt Q7]; exact hd2
     rw [drop_cons hd3, List.any_cons] at hJ2
     refine WC.skipn ?_
     refine WC.seq' ?_
     refine WC.block ?_
     refine WC.quietn mixed Q6 hs ?_
     refine WQ.p Q0 (fun w hs => Yl.fieldAddr fa112_1 Q0) ?_
     refine WQ.p Q0 (fun w hs => Yl.loadB sca110 Q0 hs Q1 Q0) ?_
     refine WQ.p Q0 (fun w hs => Yl.move Q0) ?_
     refine WQ.p Q0 (fun w hs => Yl.indexAddr slt110 Q0 Q0 (Ph.old h_s.files hs) Q0 (hd2)) ?_
     refine WQ.p Q0 (fun w hs => Yl.fieldAddr fa115_0 Q0) ?_
     refine WQ.p Q0 (fun w hs => Yl.loadC sca9 Q0 (Sl.Ok.at_ (Ph.old h_s.files hs) (by assumption)).2 Q0) ?_
     refine WQ.p Q0 (fun w hs => Yl.fieldAddr fa112_1 Q0) ?_
     refine WQ.p Q0 (fun w hs => Yl.loadB sca110 Q0 hs Q1 Q0) ?_
     refine WQ.p Q0 (fun w hs => Yl.move Q0) ?_
     refine WQ.p Q0 (fun w hs => Yl.indexAddr slt110 Q0 Q0 (Ph.old h_s.files hs) Q0 (hd)) ?_
     refine WQ.p Q0 (fun w hs => Yl.fieldAddr fa115_0 Q0) ?_
     refine WQ.p Q0 (fun w hs => Yl.loadC sca9 Q0 (Sl.Ok.at_ (Ph.old h_s.files hs) (by assumption)).2 Q0) ?_
     refine WQ.p Q0 (fun w hs => Yl.eqs Q0 Q0) ?_
     refine WQ.next ?_
     clear hs; intro w hs
     refine WC.condS Q0 (fun h5 => ?_) (fun h5 => ?_)
     ·
      replace h5 := of_decide_eq_true h5
      refine WC.seq ?_
      refine Qa ?_
      refine WL.next ?_
      refine WC.ret ?_
      refine At.blockret ?_
      refine At.thenret ?_
      refine At.thenret ?_
      refine At.blockret ?_
      refine At.blockret ?_
      refine At.thenret ?_
      refine At.thenret ?_
      refine At.blockret ?_
      refine At.thenret ?_
      refine fin1' rfl Q0 ?_
      refine RetP.mk hs ?_
      simp only [serverOk, filesOk]
      simp_all [fileOk, sameFile]
      try omega
     ·
      replace h5 := of_decide_eq_false h5
      refine WC.skip ?_
      refine At.blocknormal ?_
      refine At.then_ ?_
      refine WC.region ?_
      refine Qm ?_
      refine WL.p Q0 (Yl.add Q0 Q0 Q7) ?_
      refine Qa ?_
      refine WL.nil ?_
      refine At.roundC (m + 1) (hs.only Q2) ⟨by rfl, by rfl, by rfl, by rfl, by rfl, trivial⟩ ⟨by rfl, trivial⟩ ?_ ?_
      ·
       omega
      ·
       rw [hJ2]; simp_all [sameFile]
    ·
     replace h4 := of_decide_eq_false h4
     rw [drop_out (l := s.files.l.take k) (by simp; omega), List.any_nil] at hJ2
     refine WC.exit ?_
     refine At.thenexit ?_
     refine At.thenexit ?_
     refine At.blockexit ?_
     refine At.blocknormal ?_
     refine At.then_ ?_
     refine WC.region ?_
     refine Qm ?_
     refine WL.p Q0 (Yl.add Q0 Q0 Q7) ?_
     refine Qa ?_
     refine WL.nil ?_
     refine At.roundC (k + 1) (hs.only Q2) ⟨by rfl, by rfl, trivial⟩ ⟨by rfl, trivial⟩ ?_ ?_
     ·
      omega
     ·
      rw [hJ]; simp_all [fileOk]
 ·
  replace h1 := of_decide_eq_false h1
  rw [uniq_end (l := s.files.l) Q7] at hJ
  refine WC.exit ?_
  refine At.thenexit ?_
  refine At.thenexit ?_
  refine At.blockexit ?_
  refine At.then_ ?_
  refine WC.seq ?_
  refine WL.p Q0 (Yl.fieldAddr fa112_0 Q0) ?_
  refine WL.p Q0 (Yl.loadB sca9 Q0 hs Q1 Q0) ?_
  refine WL.callp hs Q0 (Yc.func Q0 fn112) (c_spec_IsName _ _ (Ph.old h_s.host hs)) ?_
  clear hs; intro w hs
  refine Qm ?_
  refine WL.split (d := 51) Q0 (fun h2 => ?_) (fun h2 => ?_)
  ·
   refine WL.run (d := 51) Q0 Q0 ?_
   refine WL.p Q0 (Yl.fieldAddr fa112_1 Q0) ?_
   refine WL.run (d := 51) Q0 Q0 ?_
   refine WL.p Q0 (Yl.loadB sca110 Q0 hs Q1 Q0) ?_
   refine WL.run (d := 51) Q0 Q0 ?_
   refine WL.p Q0 (Yl.len_sl slu110 Q0) ?_
   refine WL.run (d := 51) Q0 Q0 ?_
   refine WL.p Q0 (Yl.leq Q0 Q0) ?_
   refine WL.p Q0 (Yl.pickT Q0 Q0) ?_
   refine Qa ?_
   refine WL.next ?_
   refine WC.ret ?_
   refine fin1' rfl Q0 ?_
   refine RetP.mk hs ?_
   simp only [serverOk, filesOk]
   simp_all [fileOk, sameFile]
   try omega
  ·
   refine WL.skip (d := 51) Q0 Q0 Q0 Q0 ?_
   refine WL.skip (d := 51) Q0 Q0 Q0 Q0 ?_
   refine WL.skip (d := 51) Q0 Q0 Q0 Q0 ?_
   refine WL.skip (d := 51) Q0 Q0 Q0 Q0 ?_
   refine WL.p Q0 (Yl.pickF Q0 Q0) ?_
   refine Qa ?_
   refine WL.next ?_
   refine WC.ret ?_
   refine fin1' rfl Q0 ?_
   refine RetP.mk hs ?_
   simp only [serverOk, filesOk]
   simp_all [fileOk, sameFile]
   try omega

theorem c_spec_PutFile (l : (Sl PServer)) (a : TAddr) (y : TResponse) (w : World) (h_l : Ph.ok w l) (h_a : Ph.ok w a) (h_y : Ph.ok w y) (hbz : lsz TServer.size (l.l.map PServer.lg) ≤ 1048576) (hpy : y.policy.length ≤ 1048576) : Calls Tryd.prog 31 [Sl.v l, .agg #[S a.host, S a.path], .agg #[I y.status, I y.kind, S y.body, I y.age, Bo y.shares, S y.policy]].toArray w (Ret w (fun v w' => ∃ x : Sl PServer, v = .tuple #[x.v, Bo (putIs (l.l.map PServer.lg) a y)] ∧ x.l.map PServer.lg = putFile (l.l.map PServer.lg) a y ∧ Fresh w x w')) := by
 have hw := h_l.lt
 have hlz : l.l.length ≤ 1048576 := by simp only [lsz, List.length_map] at hbz; omega
 refine enterN 74 Tryd.func31 rfl rfl rfl ?_
 have hs := Sat.start w
 refine WC.seq ?_
 refine WL.r Q0 (Yr.box hs Q0 Q0) ?_
 clear hs; rintro _ w ⟨b1, rfl, hb, hs⟩; clear hb
 refine WL.r Q0 (Yr.box hs Q0 Q0) ?_
 clear hs; rintro _ w ⟨b2, rfl, hb, hs⟩; clear hb
 refine Qa ?_
 refine Qa ?_
 refine WL.next ?_
 refine WC.seq ?_
 refine Qm ?_
 refine WL.call hs Q0 (Yc.func Q0 fn90) (c_spec_l12Copy _ _ (Ph.old h_l hs) (by exact hbz)) ?_
 have hs0 := hs; clear hs; intro v w hb hR hs; clear hs
 obtain ⟨x3, rfl, hx3, hf3⟩ := hR
 obtain ⟨F3, hs⟩ := hf3.sat hs0 hb; clear hs0 hf3
 have hle3 := Sl.Ok.le (hs.okow (x := x3) (F := F3) Q1)
 refine Qa ?_
 refine WL.next ?_
 refine WC.seq ?_
 refine Qm ?_
 refine WL.p Q0 (Yl.fieldAddr fa43_0 Q0) ?_
 refine WL.p Q0 (Yl.loadB sca9 Q0 hs Q1 Q0) ?_
 refine WL.callp hs Q0 (Yc.func Q0 fn91) (c_spec_l12Server _ _ _ (Ph.old h_l hs)) ?_
 clear hs; intro w hs
 refine Qa ?_
 refine WL.next ?_
 refine WC.seq' ?_
 refine WC.seq ?_
 refine Qm ?_
 refine WL.p Q0 (Yl.lss Q0 Q0) ?_
 refine WL.next ?_
 refine WC.condS Q0 (fun h1 => ?_) (fun h1 => ?_)
 ·
  replace h1 := of_decide_eq_true h1
  have hlx : x3.l.length = l.l.length := by have h9 := congrArg List.length hx3; simpa using h9
  have hDp : ∀ f ∈ (PServer.lg (⟨a.host, ⟨[], none, 0⟩⟩ : PServer)).files, f.response.policy.length ≤ 1048576 := fun f hf => by cases hf
  have hdf : (⟨a.host, ⟨[], none, 0⟩⟩ : PServer).files.l.length ≤ 1048576 := Nat.zero_le _
  refine WC.seq ?_
  refine Qm ?_
  refine WL.p Q0 (Yl.len_sl slu56 Q0) ?_
  refine Qa ?_
  refine WL.next ?_
  refine WC.region ?_
  refine Qm ?_
  refine WL.p Q0 (Yl.fieldAddr fa43_0 Q0) ?_
  refine WL.p Q0 (Yl.loadB sca9 Q0 hs Q1 Q0) ?_
  refine WL.p Q0 (Yl.build bt112 Q0 Q4) ?_
  refine WL.r Q0 (Yr.buildSlice hs sll56 Q0 Q0 Q0 Q4 Q0) ?_
  clear hs; rintro _ w ⟨b4, rfl, hb, hs⟩; clear hb
  replace hs := Sat.nilsl (α := TFile) hs
  replace hs := PServer.join (⟨a.host, ⟨[], none, 0⟩⟩ : PServer) (hs.sel (D := [ow (⟨[], none, 0⟩ : (Sl TFile)) []]) Q2) (by first | exact (Ph.old h_a.host hs) | (refine Ph.old ?_ hs; assumption))
  try simp only [List.cons_append, List.nil_append] at hs
  refine WL.r Q0 (Yr.appendE (s := x3) (F := F3) (u := (⟨a.host, ⟨[], none, 0⟩⟩ : PServer)) (G := []) hs elt56 Q2 Q0 Q0 (hs.box_cells Q1) (by first | (rw [hlx]; unfold maxLen; omega) | (simp only [List.length_nil, List.length_singleton]; unfold maxLen; omega) | (simp; unfold maxLen; omega)) (by first | (rw [hlx]; omega) | omega | (simp only [List.length_nil, List.length_singleton]; omega) | (simp; omega))) ?_
  clear hs; rintro _ w ⟨s5, F5, rfl, hl5, hs⟩
  refine Qa ?_
  refine WL.nil ?_
  refine At.then_ ?_
  refine WC.seq' ?_
  refine WC.quietn mixed Q6 hs ?_
  refine WQ.p Q0 (fun w hs => Yl.move Q0) ?_
  refine WQ.p Q0 (fun w hs => Yl.move Q0) ?_
  refine WQ.p Q0 (fun w hs => Yl.indexAddr slt56 Q0 Q0 (hs.okow (x := s5) (F := F5) Q1) (by first | exact hj2 | exact hj | rfl | exact congrArg (fun n : Nat => (n : Int)) hlx) ((get_last hl5 hlx))) ?_
  refine WQ.p Q0 (fun w hs => Yl.loadA agg112 Q0 (Sl.Ok.at_ (hs.okow (x := s5) (F := F5) Q1) ((get_last hl5 hlx))).2 Q0) ?_
  refine WQ.p Q0 (fun w hs => Yl.fieldAddr fa43_1 Q0) ?_
  refine WQ.p Q0 (fun w hs => Yl.loadB sca9 Q0 hs Q1 Q0) ?_
  refine WQ.callp Q0 (fun w => Yc.func Q0 fn92) (fun w hs => (c_spec_l12File _ _ _ (Sl.Ok.elem (hs.okow (x := s5) (F := F5) Q1) (get_last hl5 hlx)))) (fun _ _ hs hb => hs.ext hb) ?_
  refine WQ.p Q0 (fun w hs => Yl.assign Q0) ?_
  refine WQ.next ?_
  clear hs; intro w hs
  refine WC.seq ?_
  refine Qm ?_
  refine WL.p Q0 (Yl.geq Q0 Q0) ?_
  refine WL.next ?_
  refine WC.condS Q0 (fun h2 => ?_) (fun h2 => ?_)
  ·
   replace h2 := of_decide_eq_true h2
   obtain ⟨j2, d2, hj2, hd2, hf2⟩ := idxF_some (Int.not_lt.2 h2)
   rw [Nat.zero_add] at hj2
   refine WC.anyX (K := [ow s5 F5]) mixed hs Q2 ?_
   clear hs; intro w hs
   refine WA.p (i := 0) Q0 Q6 Q6 Q6 Q0 (hs.only Q2) (fun w hs => Yl.move Q0) ?_
   refine WA.p (i := 1) Q0 Q6 Q6 Q6 Q0 (hs.only Q2) (fun w hs => Yl.move Q0) ?_
   have hadr500 := (Sl.Ok.at_ (hs.okow (x := s5) (F := F5) Q1) ((get_last hl5 hlx))).1
   refine WA.p (i := 2) Q0 Q6 Q6 Q6 Q0 (hs.only Q2) (fun w hs => Yl.indexAddrA slt56 Q0 Q0 hadr500 (by first | exact hj2 | exact hj | rfl | exact congrArg (fun n : Nat => (n : Int)) hlx) ((get_last hl5 hlx))) ?_
   refine WA.p (i := 3) Q0 Q6 Q6 Q6 Q0 (hs.only Q2) (fun w hs => Yl.fieldAddr fa112_1 Q0) ?_
   refine WA.p (i := 5) Q0 Q6 Q6 Q6 Q0 (hs.only Q2) (fun w hs => Yl.move Q0) ?_
   refine WA.p (i := 6) Q0 Q6 Q6 Q6 Q0 (hs.only Q2) (fun w hs => Yl.loadAB agg45 Q0 hs Q1 Q0 Q0) ?_
   refine WA.r (i := 4) Q6 Q0 Q0 (Yl.yr (Yl.loadC sca110 Q0 (Sl.Ok.at_ (hs.okow (x := s5) (F := F5) Q1) ((get_last hl5 hlx))).2 Q0)) (by rintro _ _ ⟨rfl, rfl⟩; exact hs.only Q2) ?_
   rintro _ _ ⟨rfl, rfl⟩
   have hadr501 := (Sl.Ok.at_ (Sl.Ok.elem (hs.okow (x := s5) (F := F5) Q1) (get_last hl5 hlx)).files (hd2)).1
   refine WA.p (i := 7) Q0 Q6 Q6 Q6 Q0 (hs.only Q2) (fun w hs => Yl.indexAddrA slt110 Q0 Q0 hadr501 (by first | exact hj2 | exact hj | rfl | exact congrArg (fun n : Nat => (n : Int)) hlx) (hd2)) ?_
   refine WA.p (i := 8) Q0 Q6 Q6 Q6 Q0 (hs.only Q2) (fun w hs => Yl.fieldAddr fa115_1 Q0) ?_
   obtain ⟨G6, B6, hs⟩ := Sat.lend (hs.sel (D := [ow s5 F5]) Q2) (get_last hl5 hlx)
   obtain ⟨K6, hfl6, hs⟩ := PServer.split hs
   try simp only [List.cons_append, List.nil_append] at hs
   have hel6 := Sl.Ok.elem (hs.okow (x := (⟨a.host, ⟨[], none, 0⟩⟩ : PServer).files) (F := K6) Q1) hd2
   refine WA.s (i := 9) Q6 Q0 (Yr.storeP (s := (⟨a.host, ⟨[], none, 0⟩⟩ : PServer).files) (F := K6) (d := d2) (u := (⟨d2.path, y⟩ : TFile)) (k := j2) (j := 1) hs Q2 Q0 Q0 Q0 hd2 ⟨_, by rfl, by rfl⟩ Q3 (by exact own_part_flat ⟨hel6.path, (by first | assumption | exact Flat.any (by assumption) | (refine Ph.old ?_ hs; assumption))⟩) Q0 (by exact szf45)) (by rintro _ w ⟨a6, _, rfl, hw6, hm6, _, hs⟩; exact hs.only Q2) ?_
   clear hs; rintro _ w ⟨a6, _, rfl, hw6, hm6, _, hs⟩
   replace hs := PServer.join (⟨(⟨a.host, ⟨[], none, 0⟩⟩ : PServer).host, a6⟩ : PServer) (hs.sel (D := [ow a6 K6]) Q2) (Flat.any hfl6.1)
   try simp only [List.cons_append, List.nil_append] at hs
   obtain ⟨s6, F6, hv6, hl6, hg6, hs⟩ := Sat.back (s := s5) (k := l.l.length) (d := (⟨a.host, ⟨[], none, 0⟩⟩ : PServer)) (hs.sel (D := [ow (⟨(⟨a.host, ⟨[], none, 0⟩⟩ : PServer).host, a6⟩ : PServer) K6, hl s5 l.l.length G6]) Q2) (get_last hl5 hlx) (by show [S (⟨(⟨a.host, ⟨[], none, 0⟩⟩ : PServer).host, a6⟩ : PServer).host, Sl.v a6] = [S (⟨a.host, ⟨[], none, 0⟩⟩ : PServer).host, Sl.v (⟨a.host, ⟨[], none, 0⟩⟩ : PServer).files]; rw [hw6])
   try simp only [List.cons_append, List.nil_append] at hs
   refine WA.done Q6 ?_
   refine At.then_ ?_
   refine WC.seq' ?_
   refine WC.seq ?_
   refine Qm ?_
   refine WL.p Q0 (Yl.len_sl slu56 Q0) ?_
   refine WL.p Q0 (Yl.gtr Q0 Q0) ?_
   refine Qm ?_
   refine WL.split (d := 63) Q0 (fun h3 => ?_) (fun h3 => ?_)
   ·
    replace h3 := of_decide_eq_true h3
    refine WL.skip (d := 63) Q0 Q0 Q0 Q0 ?_
    refine WL.skip (d := 63) Q0 Q0 Q0 Q0 ?_
    refine WL.skip (d := 63) Q0 Q0 Q0 Q0 ?_
    refine WL.skip (d := 63) Q0 Q0 Q0 Q0 ?_
    refine WL.skip (d := 63) Q0 Q0 Q0 Q0 ?_
    refine WL.skip (d := 63) Q0 Q0 Q0 Q0 ?_
    refine WL.p Q0 (Yl.pickT Q0 Q0) ?_
    refine WL.next ?_
    refine WC.condT Q0 ?_
    refine WC.seq ?_
    refine Qm ?_
    refine WL.call hs Q0 (Yc.func Q0 fn90) (c_spec_l12Copy _ _ (Ph.old h_l hs) (by exact hbz)) ?_
    have hs0 := hs; clear hs; intro v w hb hR hs; clear hs
    obtain ⟨x7, rfl, hx7, hf7⟩ := hR
    obtain ⟨F7, hs⟩ := hf7.sat hs0 hb; clear hs0 hf7
    have hle7 := Sl.Ok.le (hs.okow (x := x7) (F := F7) Q1)
    refine Qa ?_
    refine Qa ?_
    refine WL.next ?_
    refine WC.ret ?_
    refine At.thenret ?_
    refine fin2' rfl Q0 Q0 ?_
    refine Ret.mk hs ?_
    have hjL : idxF (onHost a.host) (l.l.map PServer.lg) 0 < 0 := by rw [idx_host]; exact h1
    have hw9 : s5.l.map PServer.lg = withHost (l.l.map PServer.lg) a.host := by rw [(host_new hjL).1, hl5, List.map_append, hx3]; rfl
    have hi9 : hostIx (l.l.map PServer.lg) a.host = l.l.length := by rw [(host_new hjL).2, List.length_map]
    have hd9 : s5.l[l.l.length]? = some (⟨a.host, ⟨[], none, 0⟩⟩ : PServer) := get_last hl5 hlx
    have hu9 : PServer.lg (⟨(⟨a.host, ⟨[], none, 0⟩⟩ : PServer).host, a6⟩ : PServer) = putOn (PServer.lg (⟨a.host, ⟨[], none, 0⟩⟩ : PServer)) a.path y := by
     rw [putOn_found (s := PServer.lg (⟨a.host, ⟨[], none, 0⟩⟩ : PServer)) hj2 hd2]
     simp only [PServer.lg, hm6]
    have hall9 : s6.l.map PServer.lg = putAll (l.l.map PServer.lg) a y := by rw [hl6]; exact put_all hw9 hi9 hd9 hu9
    have hpi9 := put_is hall9 hi9 hg6
    have hln9 : s6.l.length = s5.l.length := by rw [hl6, List.length_set]
    rw [hln9] at hpi9
    have hb9 : putIs (l.l.map PServer.lg) a y = false := by
     clear hs
     rw [hpi9]
     first
      | (simp_all; done)
      | (simp_all; omega)
      | (rw [Bool.and_eq_false_iff]; left; exact decide_eq_false Q7)
      | (rw [Bool.and_eq_true]; exact ⟨decide_eq_true Q7, by simp_all⟩)
      | (rw [Bool.and_eq_false_iff]; right; simp_all)
    exact ⟨x7, by rw [hb9], hx7.trans (putFile_no hb9).symm, hs.fresh Q1⟩
   ·
    replace h3 := of_decide_eq_false h3
    refine WL.run (d := 63) Q0 Q0 ?_
    refine Qm ?_
    refine WL.run (d := 63) Q0 Q0 ?_
    refine Qm ?_
    refine WL.run (d := 63) Q0 Q0 ?_
    refine WL.p Q0 (Yl.indexAddrV slt56 Q0 hv6 Q0 (hs.okow (x := s6) (F := F6) Q1) (by first | exact hj2 | exact hj | rfl | exact congrArg (fun n : Nat => (n : Int)) hlx) (hg6)) ?_
    refine WL.run (d := 63) Q0 Q0 ?_
    refine WL.p Q0 (Yl.loadA agg112 Q0 (Sl.Ok.at_ (hs.okow (x := s6) (F := F6) Q1) (by assumption)).2 Q0) ?_
    refine WL.run (d := 63) Q0 Q0 ?_
    have hjL : idxF (onHost a.host) (l.l.map PServer.lg) 0 < 0 := by rw [idx_host]; exact h1
    have hw9 : s5.l.map PServer.lg = withHost (l.l.map PServer.lg) a.host := by rw [(host_new hjL).1, hl5, List.map_append, hx3]; rfl
    have hi9 : hostIx (l.l.map PServer.lg) a.host = l.l.length := by rw [(host_new hjL).2, List.length_map]
    have hd9 : s5.l[l.l.length]? = some (⟨a.host, ⟨[], none, 0⟩⟩ : PServer) := get_last hl5 hlx
    have hu9 : PServer.lg (⟨(⟨a.host, ⟨[], none, 0⟩⟩ : PServer).host, a6⟩ : PServer) = putOn (PServer.lg (⟨a.host, ⟨[], none, 0⟩⟩ : PServer)) a.path y := by
     rw [putOn_found (s := PServer.lg (⟨a.host, ⟨[], none, 0⟩⟩ : PServer)) hj2 hd2]
     simp only [PServer.lg, hm6]
    have hall9 : s6.l.map PServer.lg = putAll (l.l.map PServer.lg) a y := by rw [hl6]; exact put_all hw9 hi9 hd9 hu9
    have hpi9 := put_is hall9 hi9 hg6
    have hln9 : s6.l.length = s5.l.length := by rw [hl6, List.length_set]
    rw [hln9] at hpi9
    refine WL.callp hs Q0 (Yc.func Q0 fn93) (c_spec_IsServer _ _ (Sl.Ok.elem (hs.okow (x := s6) (F := F6) Q1) hg6) (by show ∀ f ∈ (PServer.lg _).files, _; rw [hu9]; exact putOn_pol hDp hpy)) ?_
    clear hs; intro w hs
    refine WL.run (d := 63) Q0 Q0 ?_
    refine WL.p Q0 (Yl.not Q0) ?_
    refine WL.p Q0 (Yl.pickF Q0 Q0) ?_
    refine WL.next ?_
    refine WC.condS Q0 (fun h4 => ?_) (fun h4 => ?_)
    ·
     replace h4 := not_eq_true h4
     refine WC.seq ?_
     refine Qm ?_
     refine WL.call hs Q0 (Yc.func Q0 fn90) (c_spec_l12Copy _ _ (Ph.old h_l hs) (by exact hbz)) ?_
     have hs0 := hs; clear hs; intro v w hb hR hs; clear hs
     obtain ⟨x8, rfl, hx8, hf8⟩ := hR
     obtain ⟨F8, hs⟩ := hf8.sat hs0 hb; clear hs0 hf8
     have hle8 := Sl.Ok.le (hs.okow (x := x8) (F := F8) Q1)
     refine Qa ?_
     refine Qa ?_
     refine WL.next ?_
     refine WC.ret ?_
     refine At.thenret ?_
     refine fin2' rfl Q0 Q0 ?_
     refine Ret.mk hs ?_
     have hjL : idxF (onHost a.host) (l.l.map PServer.lg) 0 < 0 := by rw [idx_host]; exact h1
     have hw9 : s5.l.map PServer.lg = withHost (l.l.map PServer.lg) a.host := by rw [(host_new hjL).1, hl5, List.map_append, hx3]; rfl
     have hi9 : hostIx (l.l.map PServer.lg) a.host = l.l.length := by rw [(host_new hjL).2, List.length_map]
     have hd9 : s5.l[l.l.length]? = some (⟨a.host, ⟨[], none, 0⟩⟩ : PServer) := get_last hl5 hlx
     have hu9 : PServer.lg (⟨(⟨a.host, ⟨[], none, 0⟩⟩ : PServer).host, a6⟩ : PServer) = putOn (PServer.lg (⟨a.host, ⟨[], none, 0⟩⟩ : PServer)) a.path y := by
      rw [putOn_found (s := PServer.lg (⟨a.host, ⟨[], none, 0⟩⟩ : PServer)) hj2 hd2]
      simp only [PServer.lg, hm6]
     have hall9 : s6.l.map PServer.lg = putAll (l.l.map PServer.lg) a y := by rw [hl6]; exact put_all hw9 hi9 hd9 hu9
     have hpi9 := put_is hall9 hi9 hg6
     have hln9 : s6.l.length = s5.l.length := by rw [hl6, List.length_set]
     rw [hln9] at hpi9
     have hb9 : putIs (l.l.map PServer.lg) a y = false := by
      clear hs
      rw [hpi9]
      first
       | (simp_all; done)
       | (simp_all; omega)
       | (rw [Bool.and_eq_false_iff]; left; exact decide_eq_false Q7)
       | (rw [Bool.and_eq_true]; exact ⟨decide_eq_true Q7, by simp_all⟩)
       | (rw [Bool.and_eq_false_iff]; right; simp_all)
     exact ⟨x8, by rw [hb9], hx8.trans (putFile_no hb9).symm, hs.fresh Q1⟩
    ·
     replace h4 := not_eq_false h4
     refine WC.skipn ?_
     refine WC.seq ?_
     refine Qm ?_
     refine Qa ?_
     refine Qa ?_
     refine WL.next ?_
     refine WC.ret ?_
     refine fin2' rfl Q0 Q0 ?_
     refine Ret.mk hs ?_
     have hjL : idxF (onHost a.host) (l.l.map PServer.lg) 0 < 0 := by rw [idx_host]; exact h1
     have hw9 : s5.l.map PServer.lg = withHost (l.l.map PServer.lg) a.host := by rw [(host_new hjL).1, hl5, List.map_append, hx3]; rfl
     have hi9 : hostIx (l.l.map PServer.lg) a.host = l.l.length := by rw [(host_new hjL).2, List.length_map]
     have hd9 : s5.l[l.l.length]? = some (⟨a.host, ⟨[], none, 0⟩⟩ : PServer) := get_last hl5 hlx
     have hu9 : PServer.lg (⟨(⟨a.host, ⟨[], none, 0⟩⟩ : PServer).host, a6⟩ : PServer) = putOn (PServer.lg (⟨a.host, ⟨[], none, 0⟩⟩ : PServer)) a.path y := by
      rw [putOn_found (s := PServer.lg (⟨a.host, ⟨[], none, 0⟩⟩ : PServer)) hj2 hd2]
      simp only [PServer.lg, hm6]
     have hall9 : s6.l.map PServer.lg = putAll (l.l.map PServer.lg) a y := by rw [hl6]; exact put_all hw9 hi9 hd9 hu9
     have hpi9 := put_is hall9 hi9 hg6
     have hln9 : s6.l.length = s5.l.length := by rw [hl6, List.length_set]
     rw [hln9] at hpi9
     have hb9 : putIs (l.l.map PServer.lg) a y = true := by
      clear hs
      rw [hpi9]
      first
       | (simp_all; done)
       | (simp_all; omega)
       | (rw [Bool.and_eq_false_iff]; left; exact decide_eq_false Q7)
       | (rw [Bool.and_eq_true]; exact ⟨decide_eq_true Q7, by simp_all⟩)
       | (rw [Bool.and_eq_false_iff]; right; simp_all)
     exact ⟨s6, by rw [hb9]; exact congrArg (fun z => Value.tuple #[z, Bo true]) (hv6).symm, hall9.trans (putFile_yes hb9).symm, hs.fresh Q1⟩
  ·
   replace h2 := of_decide_eq_false h2
   refine WC.anyX (K := [ow s5 F5]) mixed hs Q2 ?_
   clear hs; intro w hs
   refine WA.p (i := 0) Q0 Q6 Q6 Q6 Q0 (hs.only Q2) (fun w hs => Yl.move Q0) ?_
   refine WA.p (i := 1) Q0 Q6 Q6 Q6 Q0 (hs.only Q2) (fun w hs => Yl.move Q0) ?_
   refine WA.p (i := 2) Q0 Q6 Q6 Q6 Q0 (hs.only Q2) (fun w hs => Yl.move Q0) ?_
   refine WA.p (i := 3) Q0 Q6 Q6 Q6 Q0 (hs.only Q2) (fun w hs => Yl.move Q0) ?_
   have hadr800 := (Sl.Ok.at_ (hs.okow (x := s5) (F := F5) Q1) ((get_last hl5 hlx))).1
   refine WA.p (i := 4) Q0 Q6 Q6 Q6 Q0 (hs.only Q2) (fun w hs => Yl.indexAddrA slt56 Q0 Q0 hadr800 (by first | exact hj2 | exact hj | rfl | exact congrArg (fun n : Nat => (n : Int)) hlx) ((get_last hl5 hlx))) ?_
   refine WA.p (i := 5) Q0 Q6 Q6 Q6 Q0 (hs.only Q2) (fun w hs => Yl.fieldAddr fa112_1 Q0) ?_
   refine WA.p (i := 7) Q0 Q6 Q6 Q6 Q0 (hs.only Q2) (fun w hs => Yl.fieldAddr fa43_1 Q0) ?_
   refine WA.p (i := 8) Q0 Q6 Q6 Q6 Q0 (hs.only Q2) (fun w hs => Yl.loadB sca9 Q0 hs Q1 Q0) ?_
   refine WA.p (i := 9) Q0 Q6 Q6 Q6 Q0 (hs.only Q2) (fun w hs => Yl.loadAB agg45 Q0 hs Q1 Q0 Q0) ?_
   refine WA.p (i := 10) Q0 Q6 Q6 Q6 Q0 (hs.only Q2) (fun w hs => Yl.build bt115 Q0 Q4) ?_
   refine WA.dag' [(⟨6, 51, [], (fun _ v cs => v = Sl.v (⟨a.host, ⟨[], none, 0⟩⟩ : PServer).files ∧ cs = [])⟩, []), (⟨11, 56, [], (fun _ v cs => ∃ b, v = .slice (some ⟨b, 0, none⟩) 1 1 ∧ cs = [box b 115 ((Ph.enc ((⟨a.path, y⟩ : TFile))))])⟩, [])] [false, false] [(0, _), (1, _), (2, _), (4, _), (5, _), (6, _), (7, _), (8, _), (9, _), (10, _), (11, _), (12, _), (13, _), (14, _), (15, _), (16, _), (17, _), (18, _), (19, _), (20, _), (21, _), (22, _), (23, _), (24, _), (25, _), (26, _), (27, _), (28, _), (29, _), (30, _), (31, _), (32, _), (33, _), (34, _), (35, _), (45, _), (46, _), (47, _), (48, _), (49, _), (50, _), (52, _), (53, _), (54, _), (55, _)] ⟨by rfl, by rfl, by rfl, by rfl, by rfl, by rfl, by rfl, by rfl, by rfl, by rfl, by rfl, by rfl, by rfl, by rfl, by rfl, by rfl, by rfl, by rfl, by rfl, by rfl, by rfl, by rfl, by rfl, by rfl, by rfl, by rfl, by rfl, by rfl, by rfl, by rfl, by rfl, by rfl, by rfl, by rfl, by rfl, by rfl, by rfl, by rfl, by rfl, by rfl, by rfl, by rfl, by rfl, by rfl, by rfl, trivial⟩ Q0 Q6 Q6 Q6 Q6 Q6 Q6 Q6 Q6 (fun _ hs => hs.only Q2) hs (fuel := 4) ⟨⟨local_const, ?_⟩, ⟨local_const, ?_⟩, trivial⟩ ?_
   ·
    clear hs
    intro w R hs
    simp only [List.cons_append, List.nil_append] at hs
    exact Gives.p' Q0 (Yl.loadC sca110 Q0 (Sl.Ok.at_ (hs.okow (x := s5) (F := F5) Q1) ((get_last hl5 hlx))).2 Q0) ⟨[], ⟨rfl, rfl⟩, hs⟩
   ·
    clear hs
    intro w R hs
    simp only [List.cons_append, List.nil_append] at hs
    exact Gives.rr' Q0 (Yr.buildSlice hs sll110 Q0 Q0 Q0 Q4 Q0) (fun _ _ ⟨b, hv, _, hs1⟩ => ⟨[box b 115 ((Ph.enc ((⟨a.path, y⟩ : TFile))))], ⟨b, hv, rfl⟩, hs1⟩)
   clear hs
   rintro _ _ ⟨rfl, rfl⟩
   rintro _ _ ⟨b10, rfl, rfl⟩
   intro w hs
   simp only [List.cons_append, List.nil_append, cond_true, cond_false] at hs
   obtain ⟨G11, B11, hs⟩ := Sat.lend (hs.sel (D := [ow s5 F5]) Q2) (get_last hl5 hlx)
   obtain ⟨K11, hfl11, hs⟩ := PServer.split hs
   try simp only [List.cons_append, List.nil_append] at hs
   refine WA.r (i := 12) Q6 Q0 Q0 (Yr.append (s := (⟨a.host, ⟨[], none, 0⟩⟩ : PServer).files) (F := K11) hs elt110 Q2 Q0 Q0 rfl (xs := [(⟨a.path, y⟩ : TFile)]) (hs.box_cells Q1) (by intro x hx; obtain rfl := List.mem_singleton.1 hx; exact ⟨Flat.any h_a.path, Flat.any h_y⟩) (by first | (rw [hlx]; unfold maxLen; omega) | (simp only [List.length_nil, List.length_singleton]; unfold maxLen; omega) | (simp; unfold maxLen; omega)) (by first | (rw [hlx]; omega) | omega | (simp only [List.length_nil, List.length_singleton]; omega) | (simp; omega))) (by rintro _ w ⟨s12, F12, rfl, hl12, hs⟩; exact hs.only Q2) ?_
   clear hs; rintro _ w ⟨s12, F12, rfl, hl12, hs⟩
   refine WA.p (i := 13) Q0 Q6 Q6 Q6 Q0 (hs.only Q2) (fun w hs => Yl.indexAddrA slt56 Q0 Q0 hadr800 (by first | exact hj2 | exact hj | rfl | exact congrArg (fun n : Nat => (n : Int)) hlx) ((get_last hl5 hlx))) ?_
   refine WA.p (i := 14) Q0 Q6 Q6 Q6 Q0 (hs.only Q2) (fun w hs => Yl.fieldAddr fa112_1 Q0) ?_
   replace hs := PServer.join (⟨(⟨a.host, ⟨[], none, 0⟩⟩ : PServer).host, s12⟩ : PServer) (hs.sel (D := [ow s12 F12]) Q2) (Flat.any hfl11.1)
   try simp only [List.cons_append, List.nil_append] at hs
   refine WA.s (i := 15) Q6 Q0 (Yr.storeHole (s := s5) (G := G11) (B := F12) (d := (⟨a.host, ⟨[], none, 0⟩⟩ : PServer)) (u := (⟨(⟨a.host, ⟨[], none, 0⟩⟩ : PServer).host, s12⟩ : PServer)) (k := l.l.length) (j := 1) hs Q2 Q0 Q0 Q0 (get_last hl5 hlx) ⟨_, by rfl, by rfl⟩ Q3 Q0 (by exact szf110)) (by rintro _ w ⟨s13, F13, hv13, hl13, hg13, hs⟩; exact hs.only Q2) ?_
   clear hs; rintro _ w ⟨s13, F13, hv13, hl13, hg13, hs⟩
   refine WA.done Q6 ?_
   refine At.then_ ?_
   refine WC.seq' ?_
   refine WC.seq ?_
   refine Qm ?_
   refine WL.p Q0 (Yl.len_sl slu56 Q0) ?_
   refine WL.p Q0 (Yl.gtr Q0 Q0) ?_
   refine Qm ?_
   refine WL.split (d := 63) Q0 (fun h3 => ?_) (fun h3 => ?_)
   ·
    replace h3 := of_decide_eq_true h3
    refine WL.skip (d := 63) Q0 Q0 Q0 Q0 ?_
    refine WL.skip (d := 63) Q0 Q0 Q0 Q0 ?_
    refine WL.skip (d := 63) Q0 Q0 Q0 Q0 ?_
    refine WL.skip (d := 63) Q0 Q0 Q0 Q0 ?_
    refine WL.skip (d := 63) Q0 Q0 Q0 Q0 ?_
    refine WL.skip (d := 63) Q0 Q0 Q0 Q0 ?_
    refine WL.p Q0 (Yl.pickT Q0 Q0) ?_
    refine WL.next ?_
    refine WC.condT Q0 ?_
    refine WC.seq ?_
    refine Qm ?_
    refine WL.call hs Q0 (Yc.func Q0 fn90) (c_spec_l12Copy _ _ (Ph.old h_l hs) (by exact hbz)) ?_
    have hs0 := hs; clear hs; intro v w hb hR hs; clear hs
    obtain ⟨x14, rfl, hx14, hf14⟩ := hR
    obtain ⟨F14, hs⟩ := hf14.sat hs0 hb; clear hs0 hf14
    have hle14 := Sl.Ok.le (hs.okow (x := x14) (F := F14) Q1)
    refine Qa ?_
    refine Qa ?_
    refine WL.next ?_
    refine WC.ret ?_
    refine At.thenret ?_
    refine fin2' rfl Q0 Q0 ?_
    refine Ret.mk hs ?_
    have hjL : idxF (onHost a.host) (l.l.map PServer.lg) 0 < 0 := by rw [idx_host]; exact h1
    have hw9 : s5.l.map PServer.lg = withHost (l.l.map PServer.lg) a.host := by rw [(host_new hjL).1, hl5, List.map_append, hx3]; rfl
    have hi9 : hostIx (l.l.map PServer.lg) a.host = l.l.length := by rw [(host_new hjL).2, List.length_map]
    have hd9 : s5.l[l.l.length]? = some (⟨a.host, ⟨[], none, 0⟩⟩ : PServer) := get_last hl5 hlx
    have hu9 : PServer.lg (⟨(⟨a.host, ⟨[], none, 0⟩⟩ : PServer).host, s12⟩ : PServer) = putOn (PServer.lg (⟨a.host, ⟨[], none, 0⟩⟩ : PServer)) a.path y := by
     rw [putOn_new (s := PServer.lg (⟨a.host, ⟨[], none, 0⟩⟩ : PServer)) (Int.not_le.1 h2)]
     simp only [PServer.lg, hl12]
    have hall9 : s13.l.map PServer.lg = putAll (l.l.map PServer.lg) a y := by rw [hl13]; exact put_all hw9 hi9 hd9 hu9
    have hpi9 := put_is hall9 hi9 hg13
    have hln9 : s13.l.length = s5.l.length := by rw [hl13, List.length_set]
    rw [hln9] at hpi9
    have hb9 : putIs (l.l.map PServer.lg) a y = false := by
     clear hs
     rw [hpi9]
     first
      | (simp_all; done)
      | (simp_all; omega)
      | (rw [Bool.and_eq_false_iff]; left; exact decide_eq_false Q7)
      | (rw [Bool.and_eq_true]; exact ⟨decide_eq_true Q7, by simp_all⟩)
      | (rw [Bool.and_eq_false_iff]; right; simp_all)
    exact ⟨x14, by rw [hb9], hx14.trans (putFile_no hb9).symm, hs.fresh Q1⟩
   ·
    replace h3 := of_decide_eq_false h3
    refine WL.run (d := 63) Q0 Q0 ?_
    refine Qm ?_
    refine WL.run (d := 63) Q0 Q0 ?_
    refine Qm ?_
    refine WL.run (d := 63) Q0 Q0 ?_
    refine WL.p Q0 (Yl.indexAddrV slt56 Q0 hv13 Q0 (hs.okow (x := s13) (F := F13) Q1) (by first | exact hj2 | exact hj | rfl | exact congrArg (fun n : Nat => (n : Int)) hlx) (hg13)) ?_
    refine WL.run (d := 63) Q0 Q0 ?_
    refine WL.p Q0 (Yl.loadA agg112 Q0 (Sl.Ok.at_ (hs.okow (x := s13) (F := F13) Q1) (by assumption)).2 Q0) ?_
    refine WL.run (d := 63) Q0 Q0 ?_
    have hjL : idxF (onHost a.host) (l.l.map PServer.lg) 0 < 0 := by rw [idx_host]; exact h1
    have hw9 : s5.l.map PServer.lg = withHost (l.l.map PServer.lg) a.host := by rw [(host_new hjL).1, hl5, List.map_append, hx3]; rfl
    have hi9 : hostIx (l.l.map PServer.lg) a.host = l.l.length := by rw [(host_new hjL).2, List.length_map]
    have hd9 : s5.l[l.l.length]? = some (⟨a.host, ⟨[], none, 0⟩⟩ : PServer) := get_last hl5 hlx
    have hu9 : PServer.lg (⟨(⟨a.host, ⟨[], none, 0⟩⟩ : PServer).host, s12⟩ : PServer) = putOn (PServer.lg (⟨a.host, ⟨[], none, 0⟩⟩ : PServer)) a.path y := by
     rw [putOn_new (s := PServer.lg (⟨a.host, ⟨[], none, 0⟩⟩ : PServer)) (Int.not_le.1 h2)]
     simp only [PServer.lg, hl12]
    have hall9 : s13.l.map PServer.lg = putAll (l.l.map PServer.lg) a y := by rw [hl13]; exact put_all hw9 hi9 hd9 hu9
    have hpi9 := put_is hall9 hi9 hg13
    have hln9 : s13.l.length = s5.l.length := by rw [hl13, List.length_set]
    rw [hln9] at hpi9
    refine WL.callp hs Q0 (Yc.func Q0 fn93) (c_spec_IsServer _ _ (Sl.Ok.elem (hs.okow (x := s13) (F := F13) Q1) hg13) (by show ∀ f ∈ (PServer.lg _).files, _; rw [hu9]; exact putOn_pol hDp hpy)) ?_
    clear hs; intro w hs
    refine WL.run (d := 63) Q0 Q0 ?_
    refine WL.p Q0 (Yl.not Q0) ?_
    refine WL.p Q0 (Yl.pickF Q0 Q0) ?_
    refine WL.next ?_
    refine WC.condS Q0 (fun h4 => ?_) (fun h4 => ?_)
    ·
     replace h4 := not_eq_true h4
     refine WC.seq ?_
     refine Qm ?_
     refine WL.call hs Q0 (Yc.func Q0 fn90) (c_spec_l12Copy _ _ (Ph.old h_l hs) (by exact hbz)) ?_
     have hs0 := hs; clear hs; intro v w hb hR hs; clear hs
     obtain ⟨x15, rfl, hx15, hf15⟩ := hR
     obtain ⟨F15, hs⟩ := hf15.sat hs0 hb; clear hs0 hf15
     have hle15 := Sl.Ok.le (hs.okow (x := x15) (F := F15) Q1)
     refine Qa ?_
     refine Qa ?_
     refine WL.next ?_
     refine WC.ret ?_
     refine At.thenret ?_
     refine fin2' rfl Q0 Q0 ?_
     refine Ret.mk hs ?_
     have hjL : idxF (onHost a.host) (l.l.map PServer.lg) 0 < 0 := by rw [idx_host]; exact h1
     have hw9 : s5.l.map PServer.lg = withHost (l.l.map PServer.lg) a.host := by rw [(host_new hjL).1, hl5, List.map_append, hx3]; rfl
     have hi9 : hostIx (l.l.map PServer.lg) a.host = l.l.length := by rw [(host_new hjL).2, List.length_map]
     have hd9 : s5.l[l.l.length]? = some (⟨a.host, ⟨[], none, 0⟩⟩ : PServer) := get_last hl5 hlx
     have hu9 : PServer.lg (⟨(⟨a.host, ⟨[], none, 0⟩⟩ : PServer).host, s12⟩ : PServer) = putOn (PServer.lg (⟨a.host, ⟨[], none, 0⟩⟩ : PServer)) a.path y := by
      rw [putOn_new (s := PServer.lg (⟨a.host, ⟨[], none, 0⟩⟩ : PServer)) (Int.not_le.1 h2)]
      simp only [PServer.lg, hl12]
     have hall9 : s13.l.map PServer.lg = putAll (l.l.map PServer.lg) a y := by rw [hl13]; exact put_all hw9 hi9 hd9 hu9
     have hpi9 := put_is hall9 hi9 hg13
     have hln9 : s13.l.length = s5.l.length := by rw [hl13, List.length_set]
     rw [hln9] at hpi9
     have hb9 : putIs (l.l.map PServer.lg) a y = false := by
      clear hs
      rw [hpi9]
      first
       | (simp_all; done)
       | (simp_all; omega)
       | (rw [Bool.and_eq_false_iff]; left; exact decide_eq_false Q7)
       | (rw [Bool.and_eq_true]; exact ⟨decide_eq_true Q7, by simp_all⟩)
       | (rw [Bool.and_eq_false_iff]; right; simp_all)
     exact ⟨x15, by rw [hb9], hx15.trans (putFile_no hb9).symm, hs.fresh Q1⟩
    ·
     replace h4 := not_eq_false h4
     refine WC.skipn ?_
     refine WC.seq ?_
     refine Qm ?_
     refine Qa ?_
     refine Qa ?_
     refine WL.next ?_
     refine WC.ret ?_
     refine fin2' rfl Q0 Q0 ?_
     refine Ret.mk hs ?_
     have hjL : idxF (onHost a.host) (l.l.map PServer.lg) 0 < 0 := by rw [idx_host]; exact h1
     have hw9 : s5.l.map PServer.lg = withHost (l.l.map PServer.lg) a.host := by rw [(host_new hjL).1, hl5, List.map_append, hx3]; rfl
     have hi9 : hostIx (l.l.map PServer.lg) a.host = l.l.length := by rw [(host_new hjL).2, List.length_map]
     have hd9 : s5.l[l.l.length]? = some (⟨a.host, ⟨[], none, 0⟩⟩ : PServer) := get_last hl5 hlx
     have hu9 : PServer.lg (⟨(⟨a.host, ⟨[], none, 0⟩⟩ : PServer).host, s12⟩ : PServer) = putOn (PServer.lg (⟨a.host, ⟨[], none, 0⟩⟩ : PServer)) a.path y := by
      rw [putOn_new (s := PServer.lg (⟨a.host, ⟨[], none, 0⟩⟩ : PServer)) (Int.not_le.1 h2)]
      simp only [PServer.lg, hl12]
     have hall9 : s13.l.map PServer.lg = putAll (l.l.map PServer.lg) a y := by rw [hl13]; exact put_all hw9 hi9 hd9 hu9
     have hpi9 := put_is hall9 hi9 hg13
     have hln9 : s13.l.length = s5.l.length := by rw [hl13, List.length_set]
     rw [hln9] at hpi9
     have hb9 : putIs (l.l.map PServer.lg) a y = true := by
      clear hs
      rw [hpi9]
      first
       | (simp_all; done)
       | (simp_all; omega)
       | (rw [Bool.and_eq_false_iff]; left; exact decide_eq_false Q7)
       | (rw [Bool.and_eq_true]; exact ⟨decide_eq_true Q7, by simp_all⟩)
       | (rw [Bool.and_eq_false_iff]; right; simp_all)
     exact ⟨s13, by rw [hb9]; exact congrArg (fun z => Value.tuple #[z, Bo true]) (hv13).symm, hall9.trans (putFile_yes hb9).symm, hs.fresh Q1⟩
 ·
  replace h1 := of_decide_eq_false h1
  have hlx : x3.l.length = l.l.length := by have h9 := congrArg List.length hx3; simpa using h9
  obtain ⟨j, d, hj, hd, hf⟩ := idxF_some h1
  rw [Nat.zero_add] at hj
  obtain ⟨dx, hdx, hdl⟩ := get_map hx3 hd
  have hDp : ∀ f ∈ (PServer.lg dx).files, f.response.policy.length ≤ 1048576 := by rw [hdl]; exact srvs_pol hbz (List.mem_map.2 ⟨d, List.mem_of_getElem? hd, rfl⟩)
  have hdf : dx.files.l.length ≤ 1048576 := by
   have h9 := lsum_le (f := TServer.size) (List.mem_map.2 ⟨d, List.mem_of_getElem? hd, rfl⟩ : PServer.lg d ∈ l.l.map PServer.lg)
   rw [← hdl] at h9
   simp only [TServer.size, lsz, PServer.lg] at h9 hbz; omega
  refine WC.skipn ?_
  refine WC.seq' ?_
  refine WC.quietn mixed Q6 hs ?_
  refine WQ.p Q0 (fun w hs => Yl.move Q0) ?_
  refine WQ.p Q0 (fun w hs => Yl.move Q0) ?_
  refine WQ.p Q0 (fun w hs => Yl.indexAddr slt56 Q0 Q0 (hs.okow (x := x3) (F := F3) Q1) (by first | exact hj2 | exact hj | rfl | exact congrArg (fun n : Nat => (n : Int)) hlx) (hdx)) ?_
  refine WQ.p Q0 (fun w hs => Yl.loadA agg112 Q0 (Sl.Ok.at_ (hs.okow (x := x3) (F := F3) Q1) (by assumption)).2 Q0) ?_
  refine WQ.p Q0 (fun w hs => Yl.fieldAddr fa43_1 Q0) ?_
  refine WQ.p Q0 (fun w hs => Yl.loadB sca9 Q0 hs Q1 Q0) ?_
  refine WQ.callp Q0 (fun w => Yc.func Q0 fn92) (fun w hs => (c_spec_l12File _ _ _ (Sl.Ok.elem (hs.okow (x := x3) (F := F3) Q1) hdx))) (fun _ _ hs hb => hs.ext hb) ?_
  refine WQ.p Q0 (fun w hs => Yl.assign Q0) ?_
  refine WQ.next ?_
  clear hs; intro w hs
  refine WC.seq ?_
  refine Qm ?_
  refine WL.p Q0 (Yl.geq Q0 Q0) ?_
  refine WL.next ?_
  refine WC.condS Q0 (fun h2 => ?_) (fun h2 => ?_)
  ·
   replace h2 := of_decide_eq_true h2
   obtain ⟨j2, d2, hj2, hd2, hf2⟩ := idxF_some (Int.not_lt.2 h2)
   rw [Nat.zero_add] at hj2
   refine WC.anyX (K := [ow x3 F3]) mixed hs Q2 ?_
   clear hs; intro w hs
   refine WA.p (i := 0) Q0 Q6 Q6 Q6 Q0 (hs.only Q2) (fun w hs => Yl.move Q0) ?_
   refine WA.p (i := 1) Q0 Q6 Q6 Q6 Q0 (hs.only Q2) (fun w hs => Yl.move Q0) ?_
   have hadr1500 := (Sl.Ok.at_ (hs.okow (x := x3) (F := F3) Q1) (hdx)).1
   refine WA.p (i := 2) Q0 Q6 Q6 Q6 Q0 (hs.only Q2) (fun w hs => Yl.indexAddrA slt56 Q0 Q0 hadr1500 (by first | exact hj2 | exact hj | rfl | exact congrArg (fun n : Nat => (n : Int)) hlx) (hdx)) ?_
   refine WA.p (i := 3) Q0 Q6 Q6 Q6 Q0 (hs.only Q2) (fun w hs => Yl.fieldAddr fa112_1 Q0) ?_
   refine WA.p (i := 5) Q0 Q6 Q6 Q6 Q0 (hs.only Q2) (fun w hs => Yl.move Q0) ?_
   refine WA.p (i := 6) Q0 Q6 Q6 Q6 Q0 (hs.only Q2) (fun w hs => Yl.loadAB agg45 Q0 hs Q1 Q0 Q0) ?_
   refine WA.r (i := 4) Q6 Q0 Q0 (Yl.yr (Yl.loadC sca110 Q0 (Sl.Ok.at_ (hs.okow (x := x3) (F := F3) Q1) (by assumption)).2 Q0)) (by rintro _ _ ⟨rfl, rfl⟩; exact hs.only Q2) ?_
   rintro _ _ ⟨rfl, rfl⟩
   have hadr1501 := (Sl.Ok.at_ (Sl.Ok.elem (hs.okow (x := x3) (F := F3) Q1) hdx).files (hd2)).1
   refine WA.p (i := 7) Q0 Q6 Q6 Q6 Q0 (hs.only Q2) (fun w hs => Yl.indexAddrA slt110 Q0 Q0 hadr1501 (by first | exact hj2 | exact hj | rfl | exact congrArg (fun n : Nat => (n : Int)) hlx) (hd2)) ?_
   refine WA.p (i := 8) Q0 Q6 Q6 Q6 Q0 (hs.only Q2) (fun w hs => Yl.fieldAddr fa115_1 Q0) ?_
   obtain ⟨G16, B16, hs⟩ := Sat.lend (hs.sel (D := [ow x3 F3]) Q2) hdx
   obtain ⟨K16, hfl16, hs⟩ := PServer.split hs
   try simp only [List.cons_append, List.nil_append] at hs
   have hel16 := Sl.Ok.elem (hs.okow (x := dx.files) (F := K16) Q1) hd2
   refine WA.s (i := 9) Q6 Q0 (Yr.storeP (s := dx.files) (F := K16) (d := d2) (u := (⟨d2.path, y⟩ : TFile)) (k := j2) (j := 1) hs Q2 Q0 Q0 Q0 hd2 ⟨_, by rfl, by rfl⟩ Q3 (by exact own_part_flat ⟨hel16.path, (by first | assumption | exact Flat.any (by assumption) | (refine Ph.old ?_ hs; assumption))⟩) Q0 (by exact szf45)) (by rintro _ w ⟨a16, _, rfl, hw16, hm16, _, hs⟩; exact hs.only Q2) ?_
   clear hs; rintro _ w ⟨a16, _, rfl, hw16, hm16, _, hs⟩
   replace hs := PServer.join (⟨dx.host, a16⟩ : PServer) (hs.sel (D := [ow a16 K16]) Q2) (Flat.any hfl16.1)
   try simp only [List.cons_append, List.nil_append] at hs
   obtain ⟨s16, F16, hv16, hl16, hg16, hs⟩ := Sat.back (s := x3) (k := j) (d := dx) (hs.sel (D := [ow (⟨dx.host, a16⟩ : PServer) K16, hl x3 j G16]) Q2) hdx (by show [S (⟨dx.host, a16⟩ : PServer).host, Sl.v a16] = [S dx.host, Sl.v dx.files]; rw [hw16])
   try simp only [List.cons_append, List.nil_append] at hs
   refine WA.done Q6 ?_
   refine At.then_ ?_
   refine WC.seq' ?_
   refine WC.seq ?_
   refine Qm ?_
   refine WL.p Q0 (Yl.len_sl slu56 Q0) ?_
   refine WL.p Q0 (Yl.gtr Q0 Q0) ?_
   refine Qm ?_
   refine WL.split (d := 63) Q0 (fun h3 => ?_) (fun h3 => ?_)
   ·
    replace h3 := of_decide_eq_true h3
    refine WL.skip (d := 63) Q0 Q0 Q0 Q0 ?_
    refine WL.skip (d := 63) Q0 Q0 Q0 Q0 ?_
    refine WL.skip (d := 63) Q0 Q0 Q0 Q0 ?_
    refine WL.skip (d := 63) Q0 Q0 Q0 Q0 ?_
    refine WL.skip (d := 63) Q0 Q0 Q0 Q0 ?_
    refine WL.skip (d := 63) Q0 Q0 Q0 Q0 ?_
    refine WL.p Q0 (Yl.pickT Q0 Q0) ?_
    refine WL.next ?_
    refine WC.condT Q0 ?_
    refine WC.seq ?_
    refine Qm ?_
    refine WL.call hs Q0 (Yc.func Q0 fn90) (c_spec_l12Copy _ _ (Ph.old h_l hs) (by exact hbz)) ?_
    have hs0 := hs; clear hs; intro v w hb hR hs; clear hs
    obtain ⟨x17, rfl, hx17, hf17⟩ := hR
    obtain ⟨F17, hs⟩ := hf17.sat hs0 hb; clear hs0 hf17
    have hle17 := Sl.Ok.le (hs.okow (x := x17) (F := F17) Q1)
    refine Qa ?_
    refine Qa ?_
    refine WL.next ?_
    refine WC.ret ?_
    refine At.thenret ?_
    refine fin2' rfl Q0 Q0 ?_
    refine Ret.mk hs ?_
    have hjL : idxF (onHost a.host) (l.l.map PServer.lg) 0 = (j : Int) := by rw [idx_host]; exact hj
    have hw9 : x3.l.map PServer.lg = withHost (l.l.map PServer.lg) a.host := by rw [(host_hit hjL).1]; exact hx3
    have hi9 : hostIx (l.l.map PServer.lg) a.host = j := (host_hit hjL).2
    have hd9 := hdx
    have hu9 : PServer.lg (⟨dx.host, a16⟩ : PServer) = putOn (PServer.lg dx) a.path y := by
     rw [putOn_found (s := PServer.lg dx) hj2 hd2]
     simp only [PServer.lg, hm16]
    have hall9 : s16.l.map PServer.lg = putAll (l.l.map PServer.lg) a y := by rw [hl16]; exact put_all hw9 hi9 hd9 hu9
    have hpi9 := put_is hall9 hi9 hg16
    have hln9 : s16.l.length = x3.l.length := by rw [hl16, List.length_set]
    rw [hln9] at hpi9
    have hb9 : putIs (l.l.map PServer.lg) a y = false := by
     clear hs
     rw [hpi9]
     first
      | (simp_all; done)
      | (simp_all; omega)
      | (rw [Bool.and_eq_false_iff]; left; exact decide_eq_false Q7)
      | (rw [Bool.and_eq_true]; exact ⟨decide_eq_true Q7, by simp_all⟩)
      | (rw [Bool.and_eq_false_iff]; right; simp_all)
    exact ⟨x17, by rw [hb9], hx17.trans (putFile_no hb9).symm, hs.fresh Q1⟩
   ·
    replace h3 := of_decide_eq_false h3
    refine WL.run (d := 63) Q0 Q0 ?_
    refine Qm ?_
    refine WL.run (d := 63) Q0 Q0 ?_
    refine Qm ?_
    refine WL.run (d := 63) Q0 Q0 ?_
    refine WL.p Q0 (Yl.indexAddrV slt56 Q0 hv16 Q0 (hs.okow (x := s16) (F := F16) Q1) (by first | exact hj2 | exact hj | rfl | exact congrArg (fun n : Nat => (n : Int)) hlx) (hg16)) ?_
    refine WL.run (d := 63) Q0 Q0 ?_
    refine WL.p Q0 (Yl.loadA agg112 Q0 (Sl.Ok.at_ (hs.okow (x := s16) (F := F16) Q1) (by assumption)).2 Q0) ?_
    refine WL.run (d := 63) Q0 Q0 ?_
    have hjL : idxF (onHost a.host) (l.l.map PServer.lg) 0 = (j : Int) := by rw [idx_host]; exact hj
    have hw9 : x3.l.map PServer.lg = withHost (l.l.map PServer.lg) a.host := by rw [(host_hit hjL).1]; exact hx3
    have hi9 : hostIx (l.l.map PServer.lg) a.host = j := (host_hit hjL).2
    have hd9 := hdx
    have hu9 : PServer.lg (⟨dx.host, a16⟩ : PServer) = putOn (PServer.lg dx) a.path y := by
     rw [putOn_found (s := PServer.lg dx) hj2 hd2]
     simp only [PServer.lg, hm16]
    have hall9 : s16.l.map PServer.lg = putAll (l.l.map PServer.lg) a y := by rw [hl16]; exact put_all hw9 hi9 hd9 hu9
    have hpi9 := put_is hall9 hi9 hg16
    have hln9 : s16.l.length = x3.l.length := by rw [hl16, List.length_set]
    rw [hln9] at hpi9
    refine WL.callp hs Q0 (Yc.func Q0 fn93) (c_spec_IsServer _ _ (Sl.Ok.elem (hs.okow (x := s16) (F := F16) Q1) hg16) (by show ∀ f ∈ (PServer.lg _).files, _; rw [hu9]; exact putOn_pol hDp hpy)) ?_
    clear hs; intro w hs
    refine WL.run (d := 63) Q0 Q0 ?_
    refine WL.p Q0 (Yl.not Q0) ?_
    refine WL.p Q0 (Yl.pickF Q0 Q0) ?_
    refine WL.next ?_
    refine WC.condS Q0 (fun h4 => ?_) (fun h4 => ?_)
    ·
     replace h4 := not_eq_true h4
     refine WC.seq ?_
     refine Qm ?_
     refine WL.call hs Q0 (Yc.func Q0 fn90) (c_spec_l12Copy _ _ (Ph.old h_l hs) (by exact hbz)) ?_
     have hs0 := hs; clear hs; intro v w hb hR hs; clear hs
     obtain ⟨x18, rfl, hx18, hf18⟩ := hR
     obtain ⟨F18, hs⟩ := hf18.sat hs0 hb; clear hs0 hf18
     have hle18 := Sl.Ok.le (hs.okow (x := x18) (F := F18) Q1)
     refine Qa ?_
     refine Qa ?_
     refine WL.next ?_
     refine WC.ret ?_
     refine At.thenret ?_
     refine fin2' rfl Q0 Q0 ?_
     refine Ret.mk hs ?_
     have hjL : idxF (onHost a.host) (l.l.map PServer.lg) 0 = (j : Int) := by rw [idx_host]; exact hj
     have hw9 : x3.l.map PServer.lg = withHost (l.l.map PServer.lg) a.host := by rw [(host_hit hjL).1]; exact hx3
     have hi9 : hostIx (l.l.map PServer.lg) a.host = j := (host_hit hjL).2
     have hd9 := hdx
     have hu9 : PServer.lg (⟨dx.host, a16⟩ : PServer) = putOn (PServer.lg dx) a.path y := by
      rw [putOn_found (s := PServer.lg dx) hj2 hd2]
      simp only [PServer.lg, hm16]
     have hall9 : s16.l.map PServer.lg = putAll (l.l.map PServer.lg) a y := by rw [hl16]; exact put_all hw9 hi9 hd9 hu9
     have hpi9 := put_is hall9 hi9 hg16
     have hln9 : s16.l.length = x3.l.length := by rw [hl16, List.length_set]
     rw [hln9] at hpi9
     have hb9 : putIs (l.l.map PServer.lg) a y = false := by
      clear hs
      rw [hpi9]
      first
       | (simp_all; done)
       | (simp_all; omega)
       | (rw [Bool.and_eq_false_iff]; left; exact decide_eq_false Q7)
       | (rw [Bool.and_eq_true]; exact ⟨decide_eq_true Q7, by simp_all⟩)
       | (rw [Bool.and_eq_false_iff]; right; simp_all)
     exact ⟨x18, by rw [hb9], hx18.trans (putFile_no hb9).symm, hs.fresh Q1⟩
    ·
     replace h4 := not_eq_false h4
     refine WC.skipn ?_
     refine WC.seq ?_
     refine Qm ?_
     refine Qa ?_
     refine Qa ?_
     refine WL.next ?_
     refine WC.ret ?_
     refine fin2' rfl Q0 Q0 ?_
     refine Ret.mk hs ?_
     have hjL : idxF (onHost a.host) (l.l.map PServer.lg) 0 = (j : Int) := by rw [idx_host]; exact hj
     have hw9 : x3.l.map PServer.lg = withHost (l.l.map PServer.lg) a.host := by rw [(host_hit hjL).1]; exact hx3
     have hi9 : hostIx (l.l.map PServer.lg) a.host = j := (host_hit hjL).2
     have hd9 := hdx
     have hu9 : PServer.lg (⟨dx.host, a16⟩ : PServer) = putOn (PServer.lg dx) a.path y := by
      rw [putOn_found (s := PServer.lg dx) hj2 hd2]
      simp only [PServer.lg, hm16]
     have hall9 : s16.l.map PServer.lg = putAll (l.l.map PServer.lg) a y := by rw [hl16]; exact put_all hw9 hi9 hd9 hu9
     have hpi9 := put_is hall9 hi9 hg16
     have hln9 : s16.l.length = x3.l.length := by rw [hl16, List.length_set]
     rw [hln9] at hpi9
     have hb9 : putIs (l.l.map PServer.lg) a y = true := by
      clear hs
      rw [hpi9]
      first
       | (simp_all; done)
       | (simp_all; omega)
       | (rw [Bool.and_eq_false_iff]; left; exact decide_eq_false Q7)
       | (rw [Bool.and_eq_true]; exact ⟨decide_eq_true Q7, by simp_all⟩)
       | (rw [Bool.and_eq_false_iff]; right; simp_all)
     exact ⟨s16, by rw [hb9]; exact congrArg (fun z => Value.tuple #[z, Bo true]) (hv16).symm, hall9.trans (putFile_yes hb9).symm, hs.fresh Q1⟩
  ·
   replace h2 := of_decide_eq_false h2
   refine WC.anyX (K := [ow x3 F3]) mixed hs Q2 ?_
   clear hs; intro w hs
   refine WA.p (i := 0) Q0 Q6 Q6 Q6 Q0 (hs.only Q2) (fun w hs => Yl.move Q0) ?_
   refine WA.p (i := 1) Q0 Q6 Q6 Q6 Q0 (hs.only Q2) (fun w hs => Yl.move Q0) ?_
   refine WA.p (i := 2) Q0 Q6 Q6 Q6 Q0 (hs.only Q2) (fun w hs => Yl.move Q0) ?_
   refine WA.p (i := 3) Q0 Q6 Q6 Q6 Q0 (hs.only Q2) (fun w hs => Yl.move Q0) ?_
   have hadr1800 := (Sl.Ok.at_ (hs.okow (x := x3) (F := F3) Q1) (hdx)).1
   refine WA.p (i := 4) Q0 Q6 Q6 Q6 Q0 (hs.only Q2) (fun w hs => Yl.indexAddrA slt56 Q0 Q0 hadr1800 (by first | exact hj2 | exact hj | rfl | exact congrArg (fun n : Nat => (n : Int)) hlx) (hdx)) ?_
   refine WA.p (i := 5) Q0 Q6 Q6 Q6 Q0 (hs.only Q2) (fun w hs => Yl.fieldAddr fa112_1 Q0) ?_
   refine WA.p (i := 7) Q0 Q6 Q6 Q6 Q0 (hs.only Q2) (fun w hs => Yl.fieldAddr fa43_1 Q0) ?_
   refine WA.p (i := 8) Q0 Q6 Q6 Q6 Q0 (hs.only Q2) (fun w hs => Yl.loadB sca9 Q0 hs Q1 Q0) ?_
   refine WA.p (i := 9) Q0 Q6 Q6 Q6 Q0 (hs.only Q2) (fun w hs => Yl.loadAB agg45 Q0 hs Q1 Q0 Q0) ?_
   refine WA.p (i := 10) Q0 Q6 Q6 Q6 Q0 (hs.only Q2) (fun w hs => Yl.build bt115 Q0 Q4) ?_
   refine WA.dag' [(⟨6, 51, [], (fun _ v cs => v = Sl.v dx.files ∧ cs = [])⟩, []), (⟨11, 56, [], (fun _ v cs => ∃ b, v = .slice (some ⟨b, 0, none⟩) 1 1 ∧ cs = [box b 115 ((Ph.enc ((⟨a.path, y⟩ : TFile))))])⟩, [])] [false, false] [(0, _), (1, _), (2, _), (4, _), (5, _), (6, _), (7, _), (8, _), (9, _), (10, _), (11, _), (12, _), (13, _), (14, _), (15, _), (16, _), (17, _), (18, _), (27, _), (28, _), (29, _), (30, _), (31, _), (32, _), (33, _), (34, _), (35, _), (45, _), (46, _), (47, _), (48, _), (49, _), (50, _), (52, _), (53, _), (54, _), (55, _)] ⟨by rfl, by rfl, by rfl, by rfl, by rfl, by rfl, by rfl, by rfl, by rfl, by rfl, by rfl, by rfl, by rfl, by rfl, by rfl, by rfl, by rfl, by rfl, by rfl, by rfl, by rfl, by rfl, by rfl, by rfl, by rfl, by rfl, by rfl, by rfl, by rfl, by rfl, by rfl, by rfl, by rfl, by rfl, by rfl, by rfl, by rfl, trivial⟩ Q0 Q6 Q6 Q6 Q6 Q6 Q6 Q6 Q6 (fun _ hs => hs.only Q2) hs (fuel := 4) ⟨⟨local_const, ?_⟩, ⟨local_const, ?_⟩, trivial⟩ ?_
   ·
    clear hs
    intro w R hs
    simp only [List.cons_append, List.nil_append] at hs
    exact Gives.p' Q0 (Yl.loadC sca110 Q0 (Sl.Ok.at_ (hs.okow (x := x3) (F := F3) Q1) (by assumption)).2 Q0) ⟨[], ⟨rfl, rfl⟩, hs⟩
   ·
    clear hs
    intro w R hs
    simp only [List.cons_append, List.nil_append] at hs
    exact Gives.rr' Q0 (Yr.buildSlice hs sll110 Q0 Q0 Q0 Q4 Q0) (fun _ _ ⟨b, hv, _, hs1⟩ => ⟨[box b 115 ((Ph.enc ((⟨a.path, y⟩ : TFile))))], ⟨b, hv, rfl⟩, hs1⟩)
   clear hs
   rintro _ _ ⟨rfl, rfl⟩
   rintro _ _ ⟨b20, rfl, rfl⟩
   intro w hs
   simp only [List.cons_append, List.nil_append, cond_true, cond_false] at hs
   obtain ⟨G21, B21, hs⟩ := Sat.lend (hs.sel (D := [ow x3 F3]) Q2) hdx
   obtain ⟨K21, hfl21, hs⟩ := PServer.split hs
   try simp only [List.cons_append, List.nil_append] at hs
   refine WA.r (i := 12) Q6 Q0 Q0 (Yr.append (s := dx.files) (F := K21) hs elt110 Q2 Q0 Q0 rfl (xs := [(⟨a.path, y⟩ : TFile)]) (hs.box_cells Q1) (by intro x hx; obtain rfl := List.mem_singleton.1 hx; exact ⟨Flat.any h_a.path, Flat.any h_y⟩) (by first | (rw [hlx]; unfold maxLen; omega) | (simp only [List.length_nil, List.length_singleton]; unfold maxLen; omega) | (simp; unfold maxLen; omega)) (by first | (rw [hlx]; omega) | omega | (simp only [List.length_nil, List.length_singleton]; omega) | (simp; omega))) (by rintro _ w ⟨s22, F22, rfl, hl22, hs⟩; exact hs.only Q2) ?_
   clear hs; rintro _ w ⟨s22, F22, rfl, hl22, hs⟩
   refine WA.p (i := 13) Q0 Q6 Q6 Q6 Q0 (hs.only Q2) (fun w hs => Yl.indexAddrA slt56 Q0 Q0 hadr1800 (by first | exact hj2 | exact hj | rfl | exact congrArg (fun n : Nat => (n : Int)) hlx) (hdx)) ?_
   refine WA.p (i := 14) Q0 Q6 Q6 Q6 Q0 (hs.only Q2) (fun w hs => Yl.fieldAddr fa112_1 Q0) ?_
   replace hs := PServer.join (⟨dx.host, s22⟩ : PServer) (hs.sel (D := [ow s22 F22]) Q2) (Flat.any hfl21.1)
   try simp only [List.cons_append, List.nil_append] at hs
   refine WA.s (i := 15) Q6 Q0 (Yr.storeHole (s := x3) (G := G21) (B := F22) (d := dx) (u := (⟨dx.host, s22⟩ : PServer)) (k := j) (j := 1) hs Q2 Q0 Q0 Q0 hdx ⟨_, by rfl, by rfl⟩ Q3 Q0 (by exact szf110)) (by rintro _ w ⟨s23, F23, hv23, hl23, hg23, hs⟩; exact hs.only Q2) ?_
   clear hs; rintro _ w ⟨s23, F23, hv23, hl23, hg23, hs⟩
   refine WA.done Q6 ?_
   refine At.then_ ?_
   refine WC.seq' ?_
   refine WC.seq ?_
   refine Qm ?_
   refine WL.p Q0 (Yl.len_sl slu56 Q0) ?_
   refine WL.p Q0 (Yl.gtr Q0 Q0) ?_
   refine Qm ?_
   refine WL.split (d := 63) Q0 (fun h3 => ?_) (fun h3 => ?_)
   ·
    replace h3 := of_decide_eq_true h3
    refine WL.skip (d := 63) Q0 Q0 Q0 Q0 ?_
    refine WL.skip (d := 63) Q0 Q0 Q0 Q0 ?_
    refine WL.skip (d := 63) Q0 Q0 Q0 Q0 ?_
    refine WL.skip (d := 63) Q0 Q0 Q0 Q0 ?_
    refine WL.skip (d := 63) Q0 Q0 Q0 Q0 ?_
    refine WL.skip (d := 63) Q0 Q0 Q0 Q0 ?_
    refine WL.p Q0 (Yl.pickT Q0 Q0) ?_
    refine WL.next ?_
    refine WC.condT Q0 ?_
    refine WC.seq ?_
    refine Qm ?_
    refine WL.call hs Q0 (Yc.func Q0 fn90) (c_spec_l12Copy _ _ (Ph.old h_l hs) (by exact hbz)) ?_
    have hs0 := hs; clear hs; intro v w hb hR hs; clear hs
    obtain ⟨x24, rfl, hx24, hf24⟩ := hR
    obtain ⟨F24, hs⟩ := hf24.sat hs0 hb; clear hs0 hf24
    have hle24 := Sl.Ok.le (hs.okow (x := x24) (F := F24) Q1)
    refine Qa ?_
    refine Qa ?_
    refine WL.next ?_
    refine WC.ret ?_
    refine At.thenret ?_
    refine fin2' rfl Q0 Q0 ?_
    refine Ret.mk hs ?_
    have hjL : idxF (onHost a.host) (l.l.map PServer.lg) 0 = (j : Int) := by rw [idx_host]; exact hj
    have hw9 : x3.l.map PServer.lg = withHost (l.l.map PServer.lg) a.host := by rw [(host_hit hjL).1]; exact hx3
    have hi9 : hostIx (l.l.map PServer.lg) a.host = j := (host_hit hjL).2
    have hd9 := hdx
    have hu9 : PServer.lg (⟨dx.host, s22⟩ : PServer) = putOn (PServer.lg dx) a.path y := by
     rw [putOn_new (s := PServer.lg dx) (Int.not_le.1 h2)]
     simp only [PServer.lg, hl22]
    have hall9 : s23.l.map PServer.lg = putAll (l.l.map PServer.lg) a y := by rw [hl23]; exact put_all hw9 hi9 hd9 hu9
    have hpi9 := put_is hall9 hi9 hg23
    have hln9 : s23.l.length = x3.l.length := by rw [hl23, List.length_set]
    rw [hln9] at hpi9
    have hb9 : putIs (l.l.map PServer.lg) a y = false := by
     clear hs
     rw [hpi9]
     first
      | (simp_all; done)
      | (simp_all; omega)
      | (rw [Bool.and_eq_false_iff]; left; exact decide_eq_false Q7)
      | (rw [Bool.and_eq_true]; exact ⟨decide_eq_true Q7, by simp_all⟩)
      | (rw [Bool.and_eq_false_iff]; right; simp_all)
    exact ⟨x24, by rw [hb9], hx24.trans (putFile_no hb9).symm, hs.fresh Q1⟩
   ·
    replace h3 := of_decide_eq_false h3
    refine WL.run (d := 63) Q0 Q0 ?_
    refine Qm ?_
    refine WL.run (d := 63) Q0 Q0 ?_
    refine Qm ?_
    refine WL.run (d := 63) Q0 Q0 ?_
    refine WL.p Q0 (Yl.indexAddrV slt56 Q0 hv23 Q0 (hs.okow (x := s23) (F := F23) Q1) (by first | exact hj2 | exact hj | rfl | exact congrArg (fun n : Nat => (n : Int)) hlx) (hg23)) ?_
    refine WL.run (d := 63) Q0 Q0 ?_
    refine WL.p Q0 (Yl.loadA agg112 Q0 (Sl.Ok.at_ (hs.okow (x := s23) (F := F23) Q1) (by assumption)).2 Q0) ?_
    refine WL.run (d := 63) Q0 Q0 ?_
    have hjL : idxF (onHost a.host) (l.l.map PServer.lg) 0 = (j : Int) := by rw [idx_host]; exact hj
    have hw9 : x3.l.map PServer.lg = withHost (l.l.map PServer.lg) a.host := by rw [(host_hit hjL).1]; exact hx3
    have hi9 : hostIx (l.l.map PServer.lg) a.host = j := (host_hit hjL).2
    have hd9 := hdx
    have hu9 : PServer.lg (⟨dx.host, s22⟩ : PServer) = putOn (PServer.lg dx) a.path y := by
     rw [putOn_new (s := PServer.lg dx) (Int.not_le.1 h2)]
     simp only [PServer.lg, hl22]
    have hall9 : s23.l.map PServer.lg = putAll (l.l.map PServer.lg) a y := by rw [hl23]; exact put_all hw9 hi9 hd9 hu9
    have hpi9 := put_is hall9 hi9 hg23
    have hln9 : s23.l.length = x3.l.length := by rw [hl23, List.length_set]
    rw [hln9] at hpi9
    refine WL.callp hs Q0 (Yc.func Q0 fn93) (c_spec_IsServer _ _ (Sl.Ok.elem (hs.okow (x := s23) (F := F23) Q1) hg23) (by show ∀ f ∈ (PServer.lg _).files, _; rw [hu9]; exact putOn_pol hDp hpy)) ?_
    clear hs; intro w hs
    refine WL.run (d := 63) Q0 Q0 ?_
    refine WL.p Q0 (Yl.not Q0) ?_
    refine WL.p Q0 (Yl.pickF Q0 Q0) ?_
    refine WL.next ?_
    refine WC.condS Q0 (fun h4 => ?_) (fun h4 => ?_)
    ·
     replace h4 := not_eq_true h4
     refine WC.seq ?_
     refine Qm ?_
     refine WL.call hs Q0 (Yc.func Q0 fn90) (c_spec_l12Copy _ _ (Ph.old h_l hs) (by exact hbz)) ?_
     have hs0 := hs; clear hs; intro v w hb hR hs; clear hs
     obtain ⟨x25, rfl, hx25, hf25⟩ := hR
     obtain ⟨F25, hs⟩ := hf25.sat hs0 hb; clear hs0 hf25
     have hle25 := Sl.Ok.le (hs.okow (x := x25) (F := F25) Q1)
     refine Qa ?_
     refine Qa ?_
     refine WL.next ?_
     refine WC.ret ?_
     refine At.thenret ?_
     refine fin2' rfl Q0 Q0 ?_
     refine Ret.mk hs ?_
     have hjL : idxF (onHost a.host) (l.l.map PServer.lg) 0 = (j : Int) := by rw [idx_host]; exact hj
     have hw9 : x3.l.map PServer.lg = withHost (l.l.map PServer.lg) a.host := by rw [(host_hit hjL).1]; exact hx3
     have hi9 : hostIx (l.l.map PServer.lg) a.host = j := (host_hit hjL).2
     have hd9 := hdx
     have hu9 : PServer.lg (⟨dx.host, s22⟩ : PServer) = putOn (PServer.lg dx) a.path y := by
      rw [putOn_new (s := PServer.lg dx) (Int.not_le.1 h2)]
      simp only [PServer.lg, hl22]
     have hall9 : s23.l.map PServer.lg = putAll (l.l.map PServer.lg) a y := by rw [hl23]; exact put_all hw9 hi9 hd9 hu9
     have hpi9 := put_is hall9 hi9 hg23
     have hln9 : s23.l.length = x3.l.length := by rw [hl23, List.length_set]
     rw [hln9] at hpi9
     have hb9 : putIs (l.l.map PServer.lg) a y = false := by
      clear hs
      rw [hpi9]
      first
       | (simp_all; done)
       | (simp_all; omega)
       | (rw [Bool.and_eq_false_iff]; left; exact decide_eq_false Q7)
       | (rw [Bool.and_eq_true]; exact ⟨decide_eq_true Q7, by simp_all⟩)
       | (rw [Bool.and_eq_false_iff]; right; simp_all)
     exact ⟨x25, by rw [hb9], hx25.trans (putFile_no hb9).symm, hs.fresh Q1⟩
    ·
     replace h4 := not_eq_false h4
     refine WC.skipn ?_
     refine WC.seq ?_
     refine Qm ?_
     refine Qa ?_
     refine Qa ?_
     refine WL.next ?_
     refine WC.ret ?_
     refine fin2' rfl Q0 Q0 ?_
     refine Ret.mk hs ?_
     have hjL : idxF (onHost a.host) (l.l.map PServer.lg) 0 = (j : Int) := by rw [idx_host]; exact hj
     have hw9 : x3.l.map PServer.lg = withHost (l.l.map PServer.lg) a.host := by rw [(host_hit hjL).1]; exact hx3
     have hi9 : hostIx (l.l.map PServer.lg) a.host = j := (host_hit hjL).2
     have hd9 := hdx
     have hu9 : PServer.lg (⟨dx.host, s22⟩ : PServer) = putOn (PServer.lg dx) a.path y := by
      rw [putOn_new (s := PServer.lg dx) (Int.not_le.1 h2)]
      simp only [PServer.lg, hl22]
     have hall9 : s23.l.map PServer.lg = putAll (l.l.map PServer.lg) a y := by rw [hl23]; exact put_all hw9 hi9 hd9 hu9
     have hpi9 := put_is hall9 hi9 hg23
     have hln9 : s23.l.length = x3.l.length := by rw [hl23, List.length_set]
     rw [hln9] at hpi9
     have hb9 : putIs (l.l.map PServer.lg) a y = true := by
      clear hs
      rw [hpi9]
      first
       | (simp_all; done)
       | (simp_all; omega)
       | (rw [Bool.and_eq_false_iff]; left; exact decide_eq_false Q7)
       | (rw [Bool.and_eq_true]; exact ⟨decide_eq_true Q7, by simp_all⟩)
       | (rw [Bool.and_eq_false_iff]; right; simp_all)
     exact ⟨s23, by rw [hb9]; exact congrArg (fun z => Value.tuple #[z, Bo true]) (hv23).symm, hall9.trans (putFile_yes hb9).symm, hs.fresh Q1⟩

set_option maxRecDepth 20000 in
theorem c_spec_l12Servers (c : Nat) (b_ : Sl UInt8) (w : World)   (h_c : CurAt 137 b_ c w) (hb_c : CurB w b_ c) : Calls Tryd.prog 121 [bp c 0].toArray w (RetD 137 b_ c w (fun v w' => ∃ (l : Sl PServer), v = l.v ∧ (True) ∧ (lsz TServer.size (l.l.map PServer.lg) ≤ 40000 ∧ 0 < l.l.length) ∧ Fresh w l w')) := by
 refine enterN 85 Tryd.func121 rfl rfl rfl ?_
 have hs := Sat.startC h_c
 refine WC.seq ?_
 refine Qa ?_
 refine WL.next ?_
 refine WC.seq ?_
 refine WL.r Q0 (Yr.buildSlice hs sll56 Q0 Q0 Q0 Q4 Q0) ?_
 clear hs; rintro _ w ⟨b1, rfl, hb, hs⟩; clear hb
 refine Qa ?_
 refine WL.next ?_
 refine WC.seq' ?_
 refine WC.seq ?_
 refine WL.r Q0 (Yr.buildSlice hs sll24 Q0 Q0 Q0 Q4 Q0) ?_
 clear hs; rintro _ w ⟨b2, rfl, hb, hs⟩; clear hb
 replace hs := Sat.boxow (l := ([([104, 111, 109, 101] : Str), ([99, 100, 110] : Str), ([101, 118, 105, 108] : Str)] : List Str)) (hs.sel (D := [box b2 _ _]) Q2) rfl rfl (by decide) (ownL_mk_flat (lit_str Q0))
 try simp only [List.cons_append, List.nil_append] at hs
 refine WL.p Q0 (Yl.len_sl slu24 Q0) ?_
 refine Qm ?_
 refine WL.next ?_
 refine WC.block ?_
 replace hs := Sat.boxow (l := ([] : List PServer)) (hs.sel (D := [box b1 _ _]) Q2) rfl rfl (by simp) (show ownL _ [] [] from rfl)
 try simp only [List.cons_append, List.nil_append] at hs
 refine WC.loopC (ι := Nat × Sl PServer × List Nat) (fun ⟨k, s, F⟩ => 3 - k) (fun ⟨k, s, F⟩ => [(12, I (k : Int)), (3, s.v)]) (fun ⟨k, s, F⟩ => [ow s F]) (fun ⟨k, s, F⟩ => k ≤ 3 ∧ lsz TServer.size (s.l.map PServer.lg) ≤ k * 9000) [(0, _), (2, _), (10, _), (11, _)] (0, ⟨[], some ⟨b1, 0, none⟩, 0⟩, [b1]) (hs.sel (D := [ow (⟨[], some ⟨b1, 0, none⟩, 0⟩ : Sl PServer) [b1]]) Q2) ⟨by rfl, by rfl, by rfl, by rfl, trivial⟩ ⟨by rfl, by rfl, trivial⟩ ?_ ?_
 ·
  exact ⟨by omega, by simp [lsz, lsum]⟩
 clear hs; rintro ⟨k, s, F⟩ w ⟨hJ1, hJ2⟩ hs
 simp only [List.cons_append, List.nil_append] at hs
 refine WC.seq ?_
 refine WL.p Q0 (Yl.lss Q0 Q0) ?_
 refine WL.next ?_
 refine WC.seq' ?_
 refine WC.condS Q0 (fun h1 => ?_) (fun h1 => ?_)
 ·
  replace h1 := of_decide_eq_true h1
  replace h1 : (k : Int) < 3 := h1
  obtain ⟨d, hd⟩ := exists_get (l := ([([104, 111, 109, 101] : Str), ([99, 100, 110] : Str), ([101, 118, 105, 108] : Str)] : List Str)) (k := k) (by simp; omega)
  have hdn := mem_len 4 (List.mem_of_getElem? hd) Q0
  refine WC.skipn ?_
  refine WC.seq' ?_
  refine WC.block ?_
  refine WC.seq ?_
  refine WL.p Q0 (Yl.indexAddr slt24 Q0 Q0 (hs.okow (x := (⟨[([104, 111, 109, 101] : Str), ([99, 100, 110] : Str), ([101, 118, 105, 108] : Str)], some ⟨b2, 0, none⟩, 3⟩ : Sl Str)) (F := [b2]) Q1) Q0 (hd)) ?_
  refine WL.p Q0 (Yl.loadC0 sca9 Q0 (Sl.Ok.at_ (hs.okow (x := (⟨[([104, 111, 109, 101] : Str), ([99, 100, 110] : Str), ([101, 118, 105, 108] : Str)], some ⟨b2, 0, none⟩, 3⟩ : Sl Str)) (F := [b2]) Q1) (by assumption)).2 Q0) ?_
  refine Qa ?_
  refine WL.next ?_
  refine WC.seq' ?_
  refine WC.seq ?_
  refine WL.r Q0 (Yr.buildSlice hs sll24 Q0 Q0 Q0 Q4 Q0) ?_
  clear hs; rintro _ w ⟨b3, rfl, hb, hs⟩; clear hb
  replace hs := Sat.boxow (l := ([([97, 112, 112] : Str), ([108, 105, 98] : Str), ([117, 116, 105, 108] : Str)] : List Str)) (hs.sel (D := [box b3 _ _]) Q2) rfl rfl (by decide) (ownL_mk_flat (lit_str Q0))
  try simp only [List.cons_append, List.nil_append] at hs
  refine WL.p Q0 (Yl.len_sl slu24 Q0) ?_
  refine Qm ?_
  refine WL.next ?_
  refine WC.block ?_
  refine WC.loopC (ι := Nat × Sl PServer × List Nat) (fun ⟨j, z, G⟩ => 3 - j) (fun ⟨j, z, G⟩ => [(18, I (j : Int)), (3, z.v)]) (fun ⟨j, z, G⟩ => [ow z G]) (fun ⟨j, z, G⟩ => j ≤ 3 ∧ lsz TServer.size (z.l.map PServer.lg) ≤ k * 9000 + j * 1300) [(0, _), (2, _), (5, _), (10, _), (11, _), (12, _), (13, _), (16, _), (17, _)] (0, s, F) (hs.sel (D := [ow s F]) Q2) ⟨by rfl, by rfl, by rfl, by rfl, by rfl, by rfl, by rfl, by rfl, by rfl, trivial⟩ ⟨by rfl, by rfl, trivial⟩ ?_ ?_
  ·
   show 0 ≤ 3 ∧ lsz TServer.size (s.l.map PServer.lg) ≤ k * 9000 + 0 * 1300
   exact ⟨by omega, by omega⟩
  clear hs; rintro ⟨j, z, G⟩ w ⟨hI1, hI2⟩ hs
  simp only [List.cons_append, List.nil_append] at hs
  refine WC.seq ?_
  refine WL.p Q0 (Yl.lss Q0 Q0) ?_
  refine WL.next ?_
  refine WC.seq' ?_
  refine WC.condS Q0 (fun h2 => ?_) (fun h2 => ?_)
  ·
   replace h2 := of_decide_eq_true h2
   replace h2 : (j : Int) < 3 := h2
   obtain ⟨e, he⟩ := exists_get (l := ([([97, 112, 112] : Str), ([108, 105, 98] : Str), ([117, 116, 105, 108] : Str)] : List Str)) (k := j) (by simp; omega)
   have hen := mem_len 4 (List.mem_of_getElem? he) Q0
   refine WC.skipn ?_
   refine WC.seq' ?_
   refine WC.block ?_
   refine WC.seq ?_
   refine WL.p Q0 (Yl.indexAddr slt24 Q0 Q0 (hs.okow (x := (⟨[([97, 112, 112] : Str), ([108, 105, 98] : Str), ([117, 116, 105, 108] : Str)], some ⟨b3, 0, none⟩, 3⟩ : Sl Str)) (F := [b3]) Q1) Q0 (he)) ?_
   refine WL.p Q0 (Yl.loadC0 sca9 Q0 (Sl.Ok.at_ (hs.okow (x := (⟨[([97, 112, 112] : Str), ([108, 105, 98] : Str), ([117, 116, 105, 108] : Str)], some ⟨b3, 0, none⟩, 3⟩ : Sl Str)) (F := [b3]) Q1) (by assumption)).2 Q0) ?_
   refine Qa ?_
   refine WL.next ?_
   refine WC.seq ?_
   refine Qa ?_
   refine WL.next ?_
   refine WC.seq' ?_
   refine WC.seq ?_
   refine Qm ?_
   refine WL.p Q0 (Yl.nes Q0 Q0) ?_
   refine Qm ?_
   refine WL.split (d := 24) Q0 (fun h3 => ?_) (fun h3 => ?_)
   ·
    replace h3 := not_eq_true h3
    replace h3 := of_decide_eq_false h3
    refine WL.run (d := 24) Q0 Q0 ?_
    refine Qm ?_
    refine WL.run (d := 24) Q0 Q0 ?_
    refine WL.calld hs (T := 137) (b := b_) (c := c) Q2 Q0 (Yc.func Q0 fn60) (c_spec_l1Once c b_ _ _ (hs.cur Q1) (Apart.now hb_c hs)) ?_
    clear hs; intro v w ho hR hs
    obtain ⟨x4, rfl, _, hx4, hf4⟩ := hR
    clear ho hf4
    refine WL.p Q0 (Yl.pickT Q0 Q0) ?_
    refine WL.next ?_
    refine WC.condS Q0 (fun h4 => ?_) (fun h4 => ?_)
    ·
     refine WC.region ?_
     refine Qa ?_
     refine WL.nil ?_
     refine At.then_ ?_
     refine WC.seq ?_
     refine Qm ?_
     refine WL.calld hs (T := 137) (b := b_) (c := c) Q2 Q0 (Yc.func Q0 fn60) (c_spec_l1Once c b_ _ _ (hs.cur Q1) (Apart.now hb_c hs)) ?_
     clear hs; intro v w ho hR hs
     obtain ⟨x5, rfl, _, hx5, hf5⟩ := hR
     clear ho hf5
     refine WL.p Q0 (Yl.not Q0) ?_
     refine WL.next ?_
     refine WC.condS Q0 (fun h5 => ?_) (fun h5 => ?_)
     ·
      replace h5 := not_eq_true h5
      refine WC.region ?_
      refine Qm ?_
      refine Qm ?_
      refine Qm ?_
      refine WL.p Q0 (Yl.build bt43 Q0 Q4) ?_
      refine Qm ?_
      refine Qm ?_
      refine WL.calld hs (T := 137) (b := b_) (c := c) Q2 Q0 (Yc.func Q0 fn118) (c_spec_l10Response c b_ _ _ (show WfI _ from ⟨by omega, by omega⟩) (hs.cur Q1) (Apart.now hb_c hs)) ?_
      clear hs; intro v w ho hR hs
      obtain ⟨x6, rfl, hokx6, hx6, hf6⟩ := hR
      clear ho hf6
      have hn6 := hx6.1
      refine WL.call hs Q0 (Yc.func Q0 fn31) (c_spec_PutFile _ (⟨d, e⟩ : TAddr) _ _ (hs.okow (x := z) (F := G) Q1) ⟨(Sl.Ok.elem (hs.okow (x := (⟨[([104, 111, 109, 101] : Str), ([99, 100, 110] : Str), ([101, 118, 105, 108] : Str)], some ⟨b2, 0, none⟩, 3⟩ : Sl Str)) (F := [b2]) Q1) hd), (Sl.Ok.elem (hs.okow (x := (⟨[([97, 112, 112] : Str), ([108, 105, 98] : Str), ([117, 116, 105, 108] : Str)], some ⟨b3, 0, none⟩, 3⟩ : Sl Str)) (F := [b3]) Q1) he)⟩ (Flat.any hokx6) Q7 (by simp only [TResponse.size] at *; omega)) ?_
      have hs0 := hs; clear hs; intro v w hb hR hs; clear hs
      obtain ⟨x7, rfl, hx7, hf7⟩ := hR
      obtain ⟨F7, hs⟩ := hf7.sat hs0 hb; clear hs0 hf7
      have hz7 := putFile_size_of hx7; simp only [TAddr.size, List.length_cons, List.length_nil] at hz7
      refine Qm ?_
      refine WL.p Q0 (Yl.extract Q0 Q0) ?_
      refine WL.p Q0 (Yl.extract Q0 Q0) ?_
      refine Qa ?_
      refine WL.nil ?_
      refine At.blocknormal ?_
      refine At.then_ ?_
      refine WC.region ?_
      refine WL.p Q0 (Yl.add Q0 Q0 Q7) ?_
      refine Qm ?_
      refine WL.nil ?_
      refine At.roundC (j + 1, x7, F7) (hs.only Q2) ⟨by rfl, by rfl, by rfl, by rfl, by rfl, by rfl, by rfl, by rfl, by rfl, trivial⟩ ⟨by rfl, by rfl, trivial⟩ ?_ ?_
      ·
       show 3 - (j + 1) < 3 - j
       omega
      ·
       show j + 1 ≤ 3 ∧ lsz TServer.size (x7.l.map PServer.lg) ≤ k * 9000 + (j + 1) * 1300
       exact ⟨by omega, by omega⟩
     ·
      replace h5 := not_eq_false h5
      refine WC.skip ?_
      refine At.blocknormal ?_
      refine At.then_ ?_
      refine WC.region ?_
      refine WL.p Q0 (Yl.add Q0 Q0 Q7) ?_
      refine Qm ?_
      refine WL.nil ?_
      refine At.roundC (j + 1, z, G) (hs.only Q2) ⟨by rfl, by rfl, by rfl, by rfl, by rfl, by rfl, by rfl, by rfl, by rfl, trivial⟩ ⟨by rfl, by rfl, trivial⟩ ?_ ?_
      ·
       show 3 - (j + 1) < 3 - j
       omega
      ·
       show j + 1 ≤ 3 ∧ lsz TServer.size (z.l.map PServer.lg) ≤ k * 9000 + (j + 1) * 1300
       exact ⟨by omega, by omega⟩
    ·
     refine WC.skipn ?_
     refine WC.seq ?_
     refine Qm ?_
     refine WL.calld hs (T := 137) (b := b_) (c := c) Q2 Q0 (Yc.func Q0 fn60) (c_spec_l1Once c b_ _ _ (hs.cur Q1) (Apart.now hb_c hs)) ?_
     clear hs; intro v w ho hR hs
     obtain ⟨x8, rfl, _, hx8, hf8⟩ := hR
     clear ho hf8
     refine WL.p Q0 (Yl.not Q0) ?_
     refine WL.next ?_
     refine WC.condS Q0 (fun h5 => ?_) (fun h5 => ?_)
     ·
      replace h5 := not_eq_true h5
      refine WC.region ?_
      refine Qm ?_
      refine Qm ?_
      refine Qm ?_
      refine WL.p Q0 (Yl.build bt43 Q0 Q4) ?_
      refine Qm ?_
      refine Qm ?_
      refine WL.calld hs (T := 137) (b := b_) (c := c) Q2 Q0 (Yc.func Q0 fn118) (c_spec_l10Response c b_ _ _ (show WfI _ from ⟨by omega, by omega⟩) (hs.cur Q1) (Apart.now hb_c hs)) ?_
      clear hs; intro v w ho hR hs
      obtain ⟨x9, rfl, hokx9, hx9, hf9⟩ := hR
      clear ho hf9
      have hn9 := hx9.1
      refine WL.call hs Q0 (Yc.func Q0 fn31) (c_spec_PutFile _ (⟨d, e⟩ : TAddr) _ _ (hs.okow (x := z) (F := G) Q1) ⟨(Sl.Ok.elem (hs.okow (x := (⟨[([104, 111, 109, 101] : Str), ([99, 100, 110] : Str), ([101, 118, 105, 108] : Str)], some ⟨b2, 0, none⟩, 3⟩ : Sl Str)) (F := [b2]) Q1) hd), (Sl.Ok.elem (hs.okow (x := (⟨[([97, 112, 112] : Str), ([108, 105, 98] : Str), ([117, 116, 105, 108] : Str)], some ⟨b3, 0, none⟩, 3⟩ : Sl Str)) (F := [b3]) Q1) he)⟩ (Flat.any hokx9) Q7 (by simp only [TResponse.size] at *; omega)) ?_
      have hs0 := hs; clear hs; intro v w hb hR hs; clear hs
      obtain ⟨x10, rfl, hx10, hf10⟩ := hR
      obtain ⟨F10, hs⟩ := hf10.sat hs0 hb; clear hs0 hf10
      have hz10 := putFile_size_of hx10; simp only [TAddr.size, List.length_cons, List.length_nil] at hz10
      refine Qm ?_
      refine WL.p Q0 (Yl.extract Q0 Q0) ?_
      refine WL.p Q0 (Yl.extract Q0 Q0) ?_
      refine Qa ?_
      refine WL.nil ?_
      refine At.blocknormal ?_
      refine At.then_ ?_
      refine WC.region ?_
      refine WL.p Q0 (Yl.add Q0 Q0 Q7) ?_
      refine Qm ?_
      refine WL.nil ?_
      refine At.roundC (j + 1, x10, F10) (hs.only Q2) ⟨by rfl, by rfl, by rfl, by rfl, by rfl, by rfl, by rfl, by rfl, by rfl, trivial⟩ ⟨by rfl, by rfl, trivial⟩ ?_ ?_
      ·
       show 3 - (j + 1) < 3 - j
       omega
      ·
       show j + 1 ≤ 3 ∧ lsz TServer.size (x10.l.map PServer.lg) ≤ k * 9000 + (j + 1) * 1300
       exact ⟨by omega, by omega⟩
     ·
      replace h5 := not_eq_false h5
      refine WC.skip ?_
      refine At.blocknormal ?_
      refine At.then_ ?_
      refine WC.region ?_
      refine WL.p Q0 (Yl.add Q0 Q0 Q7) ?_
      refine Qm ?_
      refine WL.nil ?_
      refine At.roundC (j + 1, z, G) (hs.only Q2) ⟨by rfl, by rfl, by rfl, by rfl, by rfl, by rfl, by rfl, by rfl, by rfl, trivial⟩ ⟨by rfl, by rfl, trivial⟩ ?_ ?_
      ·
       show 3 - (j + 1) < 3 - j
       omega
      ·
       show j + 1 ≤ 3 ∧ lsz TServer.size (z.l.map PServer.lg) ≤ k * 9000 + (j + 1) * 1300
       exact ⟨by omega, by omega⟩
   ·
    replace h3 := not_eq_false h3
    replace h3 := of_decide_eq_true h3
    refine WL.skip (d := 24) Q0 Q0 Q0 Q0 ?_
    refine WL.skip (d := 24) Q0 Q0 Q0 Q0 ?_
    refine WL.p Q0 (Yl.pickF Q0 Q0) ?_
    refine WL.next ?_
    refine WC.condF Q0 ?_
    refine WC.skipn ?_
    refine WC.seq ?_
    refine Qm ?_
    refine WL.calld hs (T := 137) (b := b_) (c := c) Q2 Q0 (Yc.func Q0 fn60) (c_spec_l1Once c b_ _ _ (hs.cur Q1) (Apart.now hb_c hs)) ?_
    clear hs; intro v w ho hR hs
    obtain ⟨x11, rfl, _, hx11, hf11⟩ := hR
    clear ho hf11
    refine WL.p Q0 (Yl.not Q0) ?_
    refine WL.next ?_
    refine WC.condS Q0 (fun h4 => ?_) (fun h4 => ?_)
    ·
     replace h4 := not_eq_true h4
     refine WC.region ?_
     refine Qm ?_
     refine Qm ?_
     refine Qm ?_
     refine WL.p Q0 (Yl.build bt43 Q0 Q4) ?_
     refine Qm ?_
     refine Qm ?_
     refine WL.calld hs (T := 137) (b := b_) (c := c) Q2 Q0 (Yc.func Q0 fn118) (c_spec_l10Response c b_ _ _ (show WfI _ from ⟨by omega, by omega⟩) (hs.cur Q1) (Apart.now hb_c hs)) ?_
     clear hs; intro v w ho hR hs
     obtain ⟨x12, rfl, hokx12, hx12, hf12⟩ := hR
     clear ho hf12
     have hn12 := hx12.1
     refine WL.call hs Q0 (Yc.func Q0 fn31) (c_spec_PutFile _ (⟨d, e⟩ : TAddr) _ _ (hs.okow (x := z) (F := G) Q1) ⟨(Sl.Ok.elem (hs.okow (x := (⟨[([104, 111, 109, 101] : Str), ([99, 100, 110] : Str), ([101, 118, 105, 108] : Str)], some ⟨b2, 0, none⟩, 3⟩ : Sl Str)) (F := [b2]) Q1) hd), (Sl.Ok.elem (hs.okow (x := (⟨[([97, 112, 112] : Str), ([108, 105, 98] : Str), ([117, 116, 105, 108] : Str)], some ⟨b3, 0, none⟩, 3⟩ : Sl Str)) (F := [b3]) Q1) he)⟩ (Flat.any hokx12) Q7 (by simp only [TResponse.size] at *; omega)) ?_
     have hs0 := hs; clear hs; intro v w hb hR hs; clear hs
     obtain ⟨x13, rfl, hx13, hf13⟩ := hR
     obtain ⟨F13, hs⟩ := hf13.sat hs0 hb; clear hs0 hf13
     have hz13 := putFile_size_of hx13; simp only [TAddr.size, List.length_cons, List.length_nil] at hz13
     refine Qm ?_
     refine WL.p Q0 (Yl.extract Q0 Q0) ?_
     refine WL.p Q0 (Yl.extract Q0 Q0) ?_
     refine Qa ?_
     refine WL.nil ?_
     refine At.blocknormal ?_
     refine At.then_ ?_
     refine WC.region ?_
     refine WL.p Q0 (Yl.add Q0 Q0 Q7) ?_
     refine Qm ?_
     refine WL.nil ?_
     refine At.roundC (j + 1, x13, F13) (hs.only Q2) ⟨by rfl, by rfl, by rfl, by rfl, by rfl, by rfl, by rfl, by rfl, by rfl, trivial⟩ ⟨by rfl, by rfl, trivial⟩ ?_ ?_
     ·
      show 3 - (j + 1) < 3 - j
      omega
     ·
      show j + 1 ≤ 3 ∧ lsz TServer.size (x13.l.map PServer.lg) ≤ k * 9000 + (j + 1) * 1300
      exact ⟨by omega, by omega⟩
    ·
     replace h4 := not_eq_false h4
     refine WC.skip ?_
     refine At.blocknormal ?_
     refine At.then_ ?_
     refine WC.region ?_
     refine WL.p Q0 (Yl.add Q0 Q0 Q7) ?_
     refine Qm ?_
     refine WL.nil ?_
     refine At.roundC (j + 1, z, G) (hs.only Q2) ⟨by rfl, by rfl, by rfl, by rfl, by rfl, by rfl, by rfl, by rfl, by rfl, trivial⟩ ⟨by rfl, by rfl, trivial⟩ ?_ ?_
     ·
      show 3 - (j + 1) < 3 - j
      omega
     ·
      show j + 1 ≤ 3 ∧ lsz TServer.size (z.l.map PServer.lg) ≤ k * 9000 + (j + 1) * 1300
      exact ⟨by omega, by omega⟩
  ·
   replace h2 := of_decide_eq_false h2
   refine WC.exit ?_
   refine At.thenexit ?_
   refine At.thenexit ?_
   refine At.blockexit ?_
   refine At.then_ ?_
   refine WC.seq' ?_
   refine WC.seq ?_
   refine Qm ?_
   refine WL.calld hs (T := 137) (b := b_) (c := c) Q2 Q0 (Yc.func Q0 fn60) (c_spec_l1Once c b_ _ _ (hs.cur Q1) (Apart.now hb_c hs)) ?_
   clear hs; intro v w ho hR hs
   obtain ⟨x14, rfl, _, hx14, hf14⟩ := hR
   clear ho hf14
   refine WL.p Q0 (Yl.not Q0) ?_
   refine WL.next ?_
   refine WC.condS Q0 (fun h3 => ?_) (fun h3 => ?_)
   ·
    replace h3 := not_eq_true h3
    refine WC.region ?_
    refine Qm ?_
    refine Qm ?_
    refine WL.p Q0 (Yl.build bt43 Q0 Q4) ?_
    refine Qm ?_
    refine WL.calld hs (T := 137) (b := b_) (c := c) Q2 Q0 (Yc.func Q0 fn118) (c_spec_l10Response c b_ _ _ (show WfI _ from ⟨by omega, by omega⟩) (hs.cur Q1) (Apart.now hb_c hs)) ?_
    clear hs; intro v w ho hR hs
    obtain ⟨x15, rfl, hokx15, hx15, hf15⟩ := hR
    clear ho hf15
    have hn15 := hx15.1
    refine WL.call hs Q0 (Yc.func Q0 fn31) (c_spec_PutFile _ (⟨d, ([115, 116, 121, 108, 101] : Str)⟩ : TAddr) _ _ (hs.okow (x := z) (F := G) Q1) ⟨(Sl.Ok.elem (hs.okow (x := (⟨[([104, 111, 109, 101] : Str), ([99, 100, 110] : Str), ([101, 118, 105, 108] : Str)], some ⟨b2, 0, none⟩, 3⟩ : Sl Str)) (F := [b2]) Q1) hd), (show WfS [115, 116, 121, 108, 101] from (by unfold WfS; simp))⟩ (Flat.any hokx15) Q7 (by simp only [TResponse.size] at *; omega)) ?_
    have hs0 := hs; clear hs; intro v w hb hR hs; clear hs
    obtain ⟨x16, rfl, hx16, hf16⟩ := hR
    obtain ⟨F16, hs⟩ := hf16.sat hs0 hb; clear hs0 hf16
    have hz16 := putFile_size_of hx16; simp only [TAddr.size, List.length_cons, List.length_nil] at hz16
    refine Qm ?_
    refine WL.p Q0 (Yl.extract Q0 Q0) ?_
    refine WL.p Q0 (Yl.extract Q0 Q0) ?_
    refine Qa ?_
    refine WL.nil ?_
    refine At.then_ ?_
    refine WC.seq ?_
    refine Qm ?_
    refine WL.calld hs (T := 137) (b := b_) (c := c) Q2 Q0 (Yc.func Q0 fn60) (c_spec_l1Once c b_ _ _ (hs.cur Q1) (Apart.now hb_c hs)) ?_
    clear hs; intro v w ho hR hs
    obtain ⟨x17, rfl, _, hx17, hf17⟩ := hR
    clear ho hf17
    refine WL.p Q0 (Yl.not Q0) ?_
    refine WL.next ?_
    refine WC.condS Q0 (fun h4 => ?_) (fun h4 => ?_)
    ·
     replace h4 := not_eq_true h4
     refine WC.region ?_
     refine Qm ?_
     refine Qm ?_
     refine WL.p Q0 (Yl.build bt43 Q0 Q4) ?_
     refine Qm ?_
     refine WL.calld hs (T := 137) (b := b_) (c := c) Q2 Q0 (Yc.func Q0 fn118) (c_spec_l10Response c b_ _ _ (show WfI _ from ⟨by omega, by omega⟩) (hs.cur Q1) (Apart.now hb_c hs)) ?_
     clear hs; intro v w ho hR hs
     obtain ⟨x18, rfl, hokx18, hx18, hf18⟩ := hR
     clear ho hf18
     have hn18 := hx18.1
     refine WL.call hs Q0 (Yc.func Q0 fn31) (c_spec_PutFile _ (⟨d, ([108, 111, 103, 111] : Str)⟩ : TAddr) _ _ (hs.okow (x := x16) (F := F16) Q1) ⟨(Sl.Ok.elem (hs.okow (x := (⟨[([104, 111, 109, 101] : Str), ([99, 100, 110] : Str), ([101, 118, 105, 108] : Str)], some ⟨b2, 0, none⟩, 3⟩ : Sl Str)) (F := [b2]) Q1) hd), (show WfS [108, 111, 103, 111] from (by unfold WfS; simp))⟩ (Flat.any hokx18) Q7 (by simp only [TResponse.size] at *; omega)) ?_
     have hs0 := hs; clear hs; intro v w hb hR hs; clear hs
     obtain ⟨x19, rfl, hx19, hf19⟩ := hR
     obtain ⟨F19, hs⟩ := hf19.sat hs0 hb; clear hs0 hf19
     have hz19 := putFile_size_of hx19; simp only [TAddr.size, List.length_cons, List.length_nil] at hz19
     refine Qm ?_
     refine WL.p Q0 (Yl.extract Q0 Q0) ?_
     refine WL.p Q0 (Yl.extract Q0 Q0) ?_
     refine Qa ?_
     refine WL.nil ?_
     refine At.blocknormal ?_
     refine At.then_ ?_
     refine WC.region ?_
     refine WL.p Q0 (Yl.add Q0 Q0 Q7) ?_
     refine Qm ?_
     refine WL.nil ?_
     refine At.roundC (k + 1, x19, F19) (hs.only Q2) ⟨by rfl, by rfl, by rfl, by rfl, trivial⟩ ⟨by rfl, by rfl, trivial⟩ ?_ ?_
     ·
      show 3 - (k + 1) < 3 - k
      omega
     ·
      show k + 1 ≤ 3 ∧ lsz TServer.size (x19.l.map PServer.lg) ≤ (k + 1) * 9000
      exact ⟨by omega, by omega⟩
    ·
     replace h4 := not_eq_false h4
     refine WC.skip ?_
     refine At.blocknormal ?_
     refine At.then_ ?_
     refine WC.region ?_
     refine WL.p Q0 (Yl.add Q0 Q0 Q7) ?_
     refine Qm ?_
     refine WL.nil ?_
     refine At.roundC (k + 1, x16, F16) (hs.only Q2) ⟨by rfl, by rfl, by rfl, by rfl, trivial⟩ ⟨by rfl, by rfl, trivial⟩ ?_ ?_
     ·
      show 3 - (k + 1) < 3 - k
      omega
     ·
      show k + 1 ≤ 3 ∧ lsz TServer.size (x16.l.map PServer.lg) ≤ (k + 1) * 9000
      exact ⟨by omega, by omega⟩
   ·
    replace h3 := not_eq_false h3
    refine WC.skipn ?_
    refine WC.seq ?_
    refine Qm ?_
    refine WL.calld hs (T := 137) (b := b_) (c := c) Q2 Q0 (Yc.func Q0 fn60) (c_spec_l1Once c b_ _ _ (hs.cur Q1) (Apart.now hb_c hs)) ?_
    clear hs; intro v w ho hR hs
    obtain ⟨x20, rfl, _, hx20, hf20⟩ := hR
    clear ho hf20
    refine WL.p Q0 (Yl.not Q0) ?_
    refine WL.next ?_
    refine WC.condS Q0 (fun h4 => ?_) (fun h4 => ?_)
    ·
     replace h4 := not_eq_true h4
     refine WC.region ?_
     refine Qm ?_
     refine Qm ?_
     refine WL.p Q0 (Yl.build bt43 Q0 Q4) ?_
     refine Qm ?_
     refine WL.calld hs (T := 137) (b := b_) (c := c) Q2 Q0 (Yc.func Q0 fn118) (c_spec_l10Response c b_ _ _ (show WfI _ from ⟨by omega, by omega⟩) (hs.cur Q1) (Apart.now hb_c hs)) ?_
     clear hs; intro v w ho hR hs
     obtain ⟨x21, rfl, hokx21, hx21, hf21⟩ := hR
     clear ho hf21
     have hn21 := hx21.1
     refine WL.call hs Q0 (Yc.func Q0 fn31) (c_spec_PutFile _ (⟨d, ([108, 111, 103, 111] : Str)⟩ : TAddr) _ _ (hs.okow (x := z) (F := G) Q1) ⟨(Sl.Ok.elem (hs.okow (x := (⟨[([104, 111, 109, 101] : Str), ([99, 100, 110] : Str), ([101, 118, 105, 108] : Str)], some ⟨b2, 0, none⟩, 3⟩ : Sl Str)) (F := [b2]) Q1) hd), (show WfS [108, 111, 103, 111] from (by unfold WfS; simp))⟩ (Flat.any hokx21) Q7 (by simp only [TResponse.size] at *; omega)) ?_
     have hs0 := hs; clear hs; intro v w hb hR hs; clear hs
     obtain ⟨x22, rfl, hx22, hf22⟩ := hR
     obtain ⟨F22, hs⟩ := hf22.sat hs0 hb; clear hs0 hf22
     have hz22 := putFile_size_of hx22; simp only [TAddr.size, List.length_cons, List.length_nil] at hz22
     refine Qm ?_
     refine WL.p Q0 (Yl.extract Q0 Q0) ?_
     refine WL.p Q0 (Yl.extract Q0 Q0) ?_
     refine Qa ?_
     refine WL.nil ?_
     refine At.blocknormal ?_
     refine At.then_ ?_
     refine WC.region ?_
     refine WL.p Q0 (Yl.add Q0 Q0 Q7) ?_
     refine Qm ?_
     refine WL.nil ?_
     refine At.roundC (k + 1, x22, F22) (hs.only Q2) ⟨by rfl, by rfl, by rfl, by rfl, trivial⟩ ⟨by rfl, by rfl, trivial⟩ ?_ ?_
     ·
      show 3 - (k + 1) < 3 - k
      omega
     ·
      show k + 1 ≤ 3 ∧ lsz TServer.size (x22.l.map PServer.lg) ≤ (k + 1) * 9000
      exact ⟨by omega, by omega⟩
    ·
     replace h4 := not_eq_false h4
     refine WC.skip ?_
     refine At.blocknormal ?_
     refine At.then_ ?_
     refine WC.region ?_
     refine WL.p Q0 (Yl.add Q0 Q0 Q7) ?_
     refine Qm ?_
     refine WL.nil ?_
     refine At.roundC (k + 1, z, G) (hs.only Q2) ⟨by rfl, by rfl, by rfl, by rfl, trivial⟩ ⟨by rfl, by rfl, trivial⟩ ?_ ?_
     ·
      show 3 - (k + 1) < 3 - k
      omega
     ·
      show k + 1 ≤ 3 ∧ lsz TServer.size (z.l.map PServer.lg) ≤ (k + 1) * 9000
      exact ⟨by omega, by omega⟩
 ·
  replace h1 := of_decide_eq_false h1
  refine WC.exit ?_
  refine At.thenexit ?_
  refine At.thenexit ?_
  refine At.blockexit ?_
  refine At.then_ ?_
  refine WC.seq ?_
  refine Qm ?_
  refine WL.p Q0 (Yl.build bt43 Q0 Q4) ?_
  refine Qm ?_
  refine WL.calld hs (T := 137) (b := b_) (c := c) Q2 Q0 (Yc.func Q0 fn118) (c_spec_l10Response c b_ _ _ (show WfI _ from ⟨by omega, by omega⟩) (hs.cur Q1) (Apart.now hb_c hs)) ?_
  clear hs; intro v w ho hR hs
  obtain ⟨x23, rfl, hokx23, hx23, hf23⟩ := hR
  clear ho hf23
  have hn23 := hx23.1
  refine WL.call hs Q0 (Yc.func Q0 fn31) (c_spec_PutFile _ (⟨([104, 111, 109, 101] : Str), ([105, 110, 100, 101, 120] : Str)⟩ : TAddr) _ _ (hs.okow (x := s) (F := F) Q1) ⟨(show WfS [104, 111, 109, 101] from (by unfold WfS; simp)), (show WfS [105, 110, 100, 101, 120] from (by unfold WfS; simp))⟩ (Flat.any hokx23) Q7 (by simp only [TResponse.size] at *; omega)) ?_
  have hs0 := hs; clear hs; intro v w hb hR hs; clear hs
  obtain ⟨x24, rfl, hx24, hf24⟩ := hR
  obtain ⟨F24, hs⟩ := hf24.sat hs0 hb; clear hs0 hf24
  have hz24 := putFile_size_of hx24; simp only [TAddr.size, List.length_cons, List.length_nil] at hz24
  refine Qm ?_
  refine WL.p Q0 (Yl.extract Q0 Q0) ?_
  refine WL.p Q0 (Yl.extract Q0 Q0) ?_
  refine Qa ?_
  refine WL.next ?_
  refine WC.seq ?_
  refine Qm ?_
  refine WL.p Q0 (Yl.build bt43 Q0 Q4) ?_
  refine Qm ?_
  refine WL.calld hs (T := 137) (b := b_) (c := c) Q2 Q0 (Yc.func Q0 fn118) (c_spec_l10Response c b_ _ _ (show WfI _ from ⟨by omega, by omega⟩) (hs.cur Q1) (Apart.now hb_c hs)) ?_
  clear hs; intro v w ho hR hs
  obtain ⟨x25, rfl, hokx25, hx25, hf25⟩ := hR
  clear ho hf25
  have hn25 := hx25.1
  refine WL.call hs Q0 (Yc.func Q0 fn31) (c_spec_PutFile _ (⟨([104, 111, 109, 101] : Str), ([110, 101, 120, 116] : Str)⟩ : TAddr) _ _ (hs.okow (x := x24) (F := F24) Q1) ⟨(show WfS [104, 111, 109, 101] from (by unfold WfS; simp)), (show WfS [110, 101, 120, 116] from (by unfold WfS; simp))⟩ (Flat.any hokx25) Q7 (by simp only [TResponse.size] at *; omega)) ?_
  have hs0 := hs; clear hs; intro v w hb hR hs; clear hs
  obtain ⟨x26, rfl, hx26, hf26⟩ := hR
  obtain ⟨F26, hs⟩ := hf26.sat hs0 hb; clear hs0 hf26
  have hz26 := putFile_size_of hx26; simp only [TAddr.size, List.length_cons, List.length_nil] at hz26
  refine Qm ?_
  refine WL.p Q0 (Yl.extract Q0 Q0) ?_
  refine WL.p Q0 (Yl.extract Q0 Q0) ?_
  refine Qa ?_
  refine WL.next ?_
  refine WC.seq ?_
  refine Qm ?_
  refine Qa ?_
  refine WL.next ?_
  refine WC.ret ?_
  refine fin1' rfl Q0 ?_
  refine RetD.mk hs Q1 ?_
  refine ⟨x26, rfl, trivial, ?_, ?_⟩
  ·
   refine ⟨by omega, ?_⟩
   have g9 := put_nonempty_of hx26 (hx25.2 Q7 Q7) (by decide)
   rw [List.length_map] at g9; exact g9
  ·
   exact hs.freshD (x := x26) (F := F26) Q2

set_option maxRecDepth 20000 in
theorem c_spec_l12Any (c : Nat) (b_ : Sl UInt8) (w : World)   (h_c : CurAt 137 b_ c w) (hb_c : CurB w b_ c) : Calls Tryd.prog 85 [bp c 0].toArray w (RetD 137 b_ c w (fun v w' => ∃ (l : Sl PServer), v = l.v ∧ (True) ∧ (lsz TServer.size (l.l.map PServer.lg) ≤ 90000) ∧ Fresh w l w')) := by
 refine enterN 35 Tryd.func85 rfl rfl rfl ?_
 have hs := Sat.startC h_c
 refine WC.seq ?_
 refine Qa ?_
 refine WL.next ?_
 refine WC.seq ?_
 refine Qm ?_
 refine WL.calld hs (T := 137) (b := b_) (c := c) Q2 Q0 (Yc.func Q0 fn121) (c_spec_l12Servers c b_ _ (hs.cur Q1) (Apart.now hb_c hs)) ?_
 clear hs; intro v w ho hR hs
 obtain ⟨x1, rfl, _, hx1, hf1⟩ := hR
 obtain ⟨F1, hs⟩ := hs.addF ho hf1
 clear ho hf1
 obtain ⟨d0, hd0⟩ := exists_get (l := x1.l) (k := 0) Q7
 have hd0z : (PServer.lg d0).size ≤ 40000 := by
  have h9 := lsum_le (f := TServer.size) (List.mem_map.2 ⟨d0, List.mem_of_getElem? hd0, rfl⟩ : PServer.lg d0 ∈ x1.l.map PServer.lg)
  have h8 := hx1.1
  simp only [lsz] at h8; omega
 have hd0l : d0.files.l.length ≤ 40000 := by
  simp only [TServer.size, PServer.lg, lsz] at hd0z; omega
 have hl0l : x1.l.length ≤ 40000 := by
  have h8 := hx1.1
  simp only [lsz, List.length_map] at h8; omega
 refine Qa ?_
 refine WL.next ?_
 refine WC.seq' ?_
 refine WC.seq ?_
 refine Qm ?_
 refine WL.calld hs (T := 137) (b := b_) (c := c) Q2 Q0 (Yc.func Q0 fn98) (c_spec_l1Below c b_ _ _ (hs.cur Q1) (Apart.now hb_c hs)) ?_
 clear hs; intro v w ho hR hs
 obtain ⟨x2, rfl, hokx2, hx2, hf2⟩ := hR
 clear ho hf2
 replace hx2 : 0 ≤ x2 ∧ x2 < 12 := ⟨hx2.1, hx2.2.2 (by decide)⟩
 refine WL.next ?_
 refine WC.block ?_
 refine WC.seq ?_
 refine WL.p Q0 (Yl.eqi Q0 Q0) ?_
 refine Qa ?_
 refine WL.next ?_
 refine WC.condS Q0 (fun h1 => ?_) (fun h1 => ?_)
 ·
  replace h1 := of_decide_eq_true h1
  refine WC.region ?_
  refine Qm ?_
  refine Qm ?_
  refine WL.r Q0 (Yr.buildSlice hs sll24 Q0 Q0 Q0 Q4 Q0) ?_
  clear hs; rintro _ w ⟨b3, rfl, hb, hs⟩; clear hb
  replace hs := Sat.boxow (l := ([([104, 111, 109, 101] : Str), ([] : Str), ([109, 111, 114, 101] : Str)] : List Str)) (hs.sel (D := [box b3 _ _]) Q2) rfl rfl (by decide) (ownL_mk_flat (lit_str Q0))
  try simp only [List.cons_append, List.nil_append] at hs
  refine WL.calld hs (T := 137) (b := b_) (c := c) Q2 Q0 (Yc.func Q0 fn61) (c_spec_l1Str c b_ (⟨[([104, 111, 109, 101] : Str), ([] : Str), ([109, 111, 114, 101] : Str)], some ⟨b3, 0, none⟩, 3⟩ : Sl Str) _ (Apart.own (s := (⟨[([104, 111, 109, 101] : Str), ([] : Str), ([109, 111, 114, 101] : Str)], some ⟨b3, 0, none⟩, 3⟩ : Sl Str)) (F := [b3]) hs Q2) (by exact Nat.succ_pos _) (hs.cur Q1) (Apart.now hb_c hs)) ?_
  clear hs; intro v w ho hR hs
  obtain ⟨x4, rfl, hokx4, hx4, hf4⟩ := hR
  clear ho hf4
  replace hx4 : x4 ∈ ([([104, 111, 109, 101] : Str), ([] : Str), ([109, 111, 114, 101] : Str)] : List Str) := hx4
  have hn4 := mem_len 4 hx4 Q0
  refine WL.p Q0 (Yl.build bt112 Q0 Q4) ?_
  refine WL.r Q0 (Yr.buildSlice hs sll56 Q0 Q0 Q0 Q4 Q0) ?_
  clear hs; rintro _ w ⟨b5, rfl, hb, hs⟩; clear hb
  replace hs := Sat.nilsl (α := TFile) hs
  replace hs := PServer.join (⟨x4, ⟨[], none, 0⟩⟩ : PServer) (hs.sel (D := [ow (⟨[], none, 0⟩ : (Sl TFile)) []]) Q2) (by first | exact (Flat.any hokx4) | (refine Ph.old ?_ hs; assumption))
  try simp only [List.cons_append, List.nil_append] at hs
  refine WL.r Q0 (Yr.appendE (s := x1) (F := F1) (u := (⟨x4, ⟨[], none, 0⟩⟩ : PServer)) (G := []) hs elt56 Q2 Q0 Q0 (hs.box_cells Q1) (by first | (unfold maxLen; omega) | omega | ((try simp only [lsz, strsz, List.length_map, PCache.lg, TCache.size, PPolicy.lg, TPolicy.size, List.length_cons, List.length_nil] at *); first | (unfold maxLen; omega) | omega)) (by first | (unfold maxLen; omega) | omega | ((try simp only [lsz, strsz, List.length_map, PCache.lg, TCache.size, PPolicy.lg, TPolicy.size, List.length_cons, List.length_nil] at *); first | (unfold maxLen; omega) | omega))) ?_
  clear hs; rintro _ w ⟨s6, F6, rfl, hl6, hs⟩
  refine Qa ?_
  refine WL.nil ?_
  refine At.blocknormal ?_
  refine At.then_ ?_
  refine WC.seq ?_
  refine Qm ?_
  refine Qa ?_
  refine WL.next ?_
  refine WC.ret ?_
  refine fin1' rfl Q0 ?_
  refine RetD.mk hs Q1 ?_
  refine ⟨s6, rfl, trivial, ?_, ?_⟩
  ·
   repeat' apply And.intro
   all_goals (try dsimp only)
   all_goals first | trivial | assumption | omega | ((try simp only [List.length_append, List.length_cons, List.length_nil, lsz_app, lsz_one, lsz_cons, lsz_nil, TAddr.size, TResponse.size, TRequest.size, TPolicy.size, TEntry.size, TCache.size, strsz, TServer.size, TFile.size, List.map_append, List.map_cons, List.map_nil, PServer.lg, PPolicy.lg, PCache.lg, hl6] at *); first | omega | assumption)
  ·
   exact hs.freshD (x := s6) (F := F6) Q2
 ·
  replace h1 := of_decide_eq_false h1
  refine WC.seq ?_
  refine WL.p Q0 (Yl.eqi Q0 Q0) ?_
  refine Qa ?_
  refine WL.next ?_
  refine WC.condS Q0 (fun h2 => ?_) (fun h2 => ?_)
  ·
   replace h2 := of_decide_eq_true h2
   refine WC.anyX (K := [ow x1 F1]) mixed hs Q2 ?_
   clear hs; intro w hs
   refine WA.p (i := 0) Q0 Q6 Q6 Q6 Q0 (hs.only Q2) (fun w hs => Yl.move Q0) ?_
   refine WA.p (i := 1) Q0 Q6 Q6 Q6 Q0 (hs.only Q2) (fun w hs => Yl.move Q0) ?_
   have hadr600 := (Sl.Ok.at_ (hs.okow (x := x1) (F := F1) Q1) (hd0)).1
   refine WA.p (i := 2) Q0 Q6 Q6 Q6 Q0 (hs.only Q2) (fun w hs => Yl.indexAddrA slt56 Q0 Q0 hadr600 Q0 (hd0)) ?_
   refine WA.p (i := 3) Q0 Q6 Q6 Q6 Q0 (hs.only Q2) (fun w hs => Yl.fieldAddr fa112_1 Q0) ?_
   refine WA.p (i := 5) Q0 Q6 Q6 Q6 Q0 (hs.only Q2) (fun w hs => Yl.move Q0) ?_
   refine WA.p (i := 8) Q0 Q6 Q6 Q6 Q0 (hs.only Q2) (fun w hs => Yl.move Q0) ?_
   refine WA.two (i := 4) (j := 6) Q6 ?_ ?_
   ·
    refine WI.r (i := 4) Q0 Q0 (Yl.yr (Yl.loadC sca110 Q0 (Sl.Ok.at_ (hs.okow (x := x1) (F := F1) Q1) (by assumption)).2 Q0)) (by rintro _ _ ⟨rfl, rfl⟩; exact hs.only Q2) ?_
    rintro _ _ ⟨rfl, rfl⟩
    refine WA.r (i := 6) Q6 Q0 Q0 (Yr.buildSlice hs sll24 Q0 Q0 Q0 Q4 Q0) (by rintro _ w ⟨b7, rfl, hb, hs⟩; exact hs.only Q2) ?_
    clear hs; rintro _ w ⟨b7, rfl, hb, hs⟩; clear hb
    replace hs := Sat.boxow (l := ([([97, 112, 112] : Str), ([] : Str), ([122, 122, 122] : Str)] : List Str)) (hs.sel (D := [box b7 _ _]) Q2) rfl rfl (by decide) (ownL_mk_flat (lit_str Q0))
    try simp only [List.cons_append, List.nil_append] at hs
    refine WA.calld (i := 7) hs (T := 137) (b := b_) (c := c) Q2 (fun _ hs => hs.only Q2) Q6 Q0 Q0 (Yc.func Q0 fn61) (c_spec_l1Str c b_ (⟨[([97, 112, 112] : Str), ([] : Str), ([122, 122, 122] : Str)], some ⟨b7, 0, none⟩, 3⟩ : Sl Str) _ (Apart.own (s := (⟨[([97, 112, 112] : Str), ([] : Str), ([122, 122, 122] : Str)], some ⟨b7, 0, none⟩, 3⟩ : Sl Str)) (F := [b7]) hs Q2) (by exact Nat.succ_pos _) (hs.cur Q1) (Apart.now hb_c hs)) ?_
    clear hs; intro v w ho hR hs
    obtain ⟨x8, rfl, hokx8, hx8, hf8⟩ := hR
    clear ho hf8
    replace hx8 : x8 ∈ ([([97, 112, 112] : Str), ([] : Str), ([122, 122, 122] : Str)] : List Str) := hx8
    have hn8 := mem_len 3 hx8 Q0
    refine WA.calld (i := 9) hs (T := 137) (b := b_) (c := c) Q2 (fun _ hs => hs.only Q2) Q6 Q0 Q0 (Yc.func Q0 fn69) (c_spec_l10Any c b_ _ (hs.cur Q1) (Apart.now hb_c hs)) ?_
    clear hs; intro v w ho hR hs
    obtain ⟨x9, rfl, hokx9, hx9, hf9⟩ := hR
    clear ho hf9
    refine WA.p (i := 10) Q0 Q6 Q6 Q6 Q0 (hs.only Q2) (fun w hs => Yl.build bt115 Q0 Q4) ?_
    refine WA.r (i := 11) Q6 Q0 Q0 (Yr.buildSlice hs sll110 Q0 Q0 Q0 Q4 Q0) (by rintro _ w ⟨b10, rfl, hb, hs⟩; exact hs.only Q2) ?_
    clear hs; rintro _ w ⟨b10, rfl, hb, hs⟩; clear hb
    obtain ⟨G11, B11, hs⟩ := Sat.lend (hs.sel (D := [ow x1 F1]) Q2) hd0
    obtain ⟨K11, hfl11, hs⟩ := PServer.split hs
    try simp only [List.cons_append, List.nil_append] at hs
    refine WA.r (i := 12) Q6 Q0 Q0 (Yr.append (s := d0.files) (F := K11) hs elt110 Q2 Q0 Q0 rfl (xs := [(⟨x8, (⟨x9.status, x9.kind, x9.body, x9.age, x9.shares, x9.policy⟩ : TResponse)⟩ : TFile)]) (hs.box_cells Q1) (by intro x hx; obtain rfl := List.mem_singleton.1 hx; exact ⟨(by first | exact (Flat.any hokx8) | trivial | assumption | exact Flat.any (by assumption) | exact ⟨by omega, by omega⟩ | (show WfS _; unfold WfS; omega) | (show WfS _; unfold WfS; simp only [List.length_append, List.length_cons, List.length_nil] at *; omega) | (refine Ph.old ?_ hs; assumption)), ⟨(by first | exact (Flat.any hokx9).status | trivial | assumption | exact Flat.any (by assumption) | exact ⟨by omega, by omega⟩ | (show WfS _; unfold WfS; omega) | (show WfS _; unfold WfS; simp only [List.length_append, List.length_cons, List.length_nil] at *; omega) | (refine Ph.old ?_ hs; assumption)), (by first | exact (Flat.any hokx9).kind | trivial | assumption | exact Flat.any (by assumption) | exact ⟨by omega, by omega⟩ | (show WfS _; unfold WfS; omega) | (show WfS _; unfold WfS; simp only [List.length_append, List.length_cons, List.length_nil] at *; omega) | (refine Ph.old ?_ hs; assumption)), (by first | exact (Flat.any hokx9).body | trivial | assumption | exact Flat.any (by assumption) | exact ⟨by omega, by omega⟩ | (show WfS _; unfold WfS; omega) | (show WfS _; unfold WfS; simp only [List.length_append, List.length_cons, List.length_nil] at *; omega) | (refine Ph.old ?_ hs; assumption)), (by first | exact (Flat.any hokx9).age | trivial | assumption | exact Flat.any (by assumption) | exact ⟨by omega, by omega⟩ | (show WfS _; unfold WfS; omega) | (show WfS _; unfold WfS; simp only [List.length_append, List.length_cons, List.length_nil] at *; omega) | (refine Ph.old ?_ hs; assumption)), (by first | exact (Flat.any hokx9).shares | trivial | assumption | exact Flat.any (by assumption) | exact ⟨by omega, by omega⟩ | (show WfS _; unfold WfS; omega) | (show WfS _; unfold WfS; simp only [List.length_append, List.length_cons, List.length_nil] at *; omega) | (refine Ph.old ?_ hs; assumption)), (by first | exact (Flat.any hokx9).policy | trivial | assumption | exact Flat.any (by assumption) | exact ⟨by omega, by omega⟩ | (show WfS _; unfold WfS; omega) | (show WfS _; unfold WfS; simp only [List.length_append, List.length_cons, List.length_nil] at *; omega) | (refine Ph.old ?_ hs; assumption))⟩⟩) (by first | (unfold maxLen; omega) | omega | ((try simp only [lsz, strsz, List.length_map, PCache.lg, TCache.size, PPolicy.lg, TPolicy.size, List.length_cons, List.length_nil] at *); first | (unfold maxLen; omega) | omega)) (by first | (unfold maxLen; omega) | omega | ((try simp only [lsz, strsz, List.length_map, PCache.lg, TCache.size, PPolicy.lg, TPolicy.size, List.length_cons, List.length_nil] at *); first | (unfold maxLen; omega) | omega))) (by rintro _ w ⟨s12, F12, rfl, hl12, hs⟩; exact hs.only Q2) ?_
    clear hs; rintro _ w ⟨s12, F12, rfl, hl12, hs⟩
    refine WA.p (i := 13) Q0 Q6 Q6 Q6 Q0 (hs.only Q2) (fun w hs => Yl.indexAddrA slt56 Q0 Q0 hadr600 Q0 (hd0)) ?_
    refine WA.p (i := 14) Q0 Q6 Q6 Q6 Q0 (hs.only Q2) (fun w hs => Yl.fieldAddr fa112_1 Q0) ?_
    replace hs := PServer.join (⟨d0.host, s12⟩ : PServer) (hs.sel (D := [ow s12 F12]) Q2) (Flat.any hfl11.1)
    try simp only [List.cons_append, List.nil_append] at hs
    refine WA.s (i := 15) Q6 Q0 (Yr.storeHole (s := x1) (G := G11) (B := F12) (d := d0) (u := (⟨d0.host, s12⟩ : PServer)) (k := 0) (j := 1) hs Q2 Q0 Q0 Q0 hd0 ⟨_, by rfl, by rfl⟩ Q3 Q0 (by exact szf110)) (by rintro _ w ⟨s13, F13, hv13, hl13, hg13, hs⟩; exact hs.only Q2) ?_
    clear hs; rintro _ w ⟨s13, F13, hv13, hl13, hg13, hs⟩
    refine WA.done Q6 ?_
    refine At.blocknormal ?_
    refine At.then_ ?_
    refine WC.seq ?_
    refine Qm ?_
    refine Qa ?_
    refine WL.next ?_
    refine WC.ret ?_
    refine fin1' rfl Q0 ?_
    refine RetD.mk hs Q1 ?_
    refine ⟨s13, (hv13).symm, trivial, ?_, ?_⟩
    ·
     rw [hl13, List.map_set]
     refine Nat.le_trans lsz_set_le ?_
     simp only [PServer.lg, TServer.size, hl12, lsz_app, lsz_one, TFile.size, TResponse.size] at *
     omega
    ·
     exact hs.freshD (x := s13) (F := F13) Q2
   ·
    refine WI.r (i := 6) Q0 Q0 (Yr.buildSlice hs sll24 Q0 Q0 Q0 Q4 Q0) (by rintro _ w ⟨b14, rfl, hb, hs⟩; exact hs.only Q2) ?_
    clear hs; rintro _ w ⟨b14, rfl, hb, hs⟩; clear hb
    refine WA.two (i := 4) (j := 7) Q6 ?_ ?_
    ·
     refine WI.r (i := 4) Q0 Q0 (Yl.yr (Yl.loadC sca110 Q0 (Sl.Ok.at_ (hs.okow (x := x1) (F := F1) Q1) (by assumption)).2 Q0)) (by rintro _ _ ⟨rfl, rfl⟩; exact hs.only Q2) ?_
     rintro _ _ ⟨rfl, rfl⟩
     replace hs := Sat.boxow (l := ([([97, 112, 112] : Str), ([] : Str), ([122, 122, 122] : Str)] : List Str)) (hs.sel (D := [box b14 _ _]) Q2) rfl rfl (by decide) (ownL_mk_flat (lit_str Q0))
     try simp only [List.cons_append, List.nil_append] at hs
     refine WA.calld (i := 7) hs (T := 137) (b := b_) (c := c) Q2 (fun _ hs => hs.only Q2) Q6 Q0 Q0 (Yc.func Q0 fn61) (c_spec_l1Str c b_ (⟨[([97, 112, 112] : Str), ([] : Str), ([122, 122, 122] : Str)], some ⟨b14, 0, none⟩, 3⟩ : Sl Str) _ (Apart.own (s := (⟨[([97, 112, 112] : Str), ([] : Str), ([122, 122, 122] : Str)], some ⟨b14, 0, none⟩, 3⟩ : Sl Str)) (F := [b14]) hs Q2) (by exact Nat.succ_pos _) (hs.cur Q1) (Apart.now hb_c hs)) ?_
     clear hs; intro v w ho hR hs
     obtain ⟨x15, rfl, hokx15, hx15, hf15⟩ := hR
     clear ho hf15
     replace hx15 : x15 ∈ ([([97, 112, 112] : Str), ([] : Str), ([122, 122, 122] : Str)] : List Str) := hx15
     have hn15 := mem_len 3 hx15 Q0
     refine WA.calld (i := 9) hs (T := 137) (b := b_) (c := c) Q2 (fun _ hs => hs.only Q2) Q6 Q0 Q0 (Yc.func Q0 fn69) (c_spec_l10Any c b_ _ (hs.cur Q1) (Apart.now hb_c hs)) ?_
     clear hs; intro v w ho hR hs
     obtain ⟨x16, rfl, hokx16, hx16, hf16⟩ := hR
     clear ho hf16
     refine WA.p (i := 10) Q0 Q6 Q6 Q6 Q0 (hs.only Q2) (fun w hs => Yl.build bt115 Q0 Q4) ?_
     refine WA.r (i := 11) Q6 Q0 Q0 (Yr.buildSlice hs sll110 Q0 Q0 Q0 Q4 Q0) (by rintro _ w ⟨b17, rfl, hb, hs⟩; exact hs.only Q2) ?_
     clear hs; rintro _ w ⟨b17, rfl, hb, hs⟩; clear hb
     obtain ⟨G18, B18, hs⟩ := Sat.lend (hs.sel (D := [ow x1 F1]) Q2) hd0
     obtain ⟨K18, hfl18, hs⟩ := PServer.split hs
     try simp only [List.cons_append, List.nil_append] at hs
     refine WA.r (i := 12) Q6 Q0 Q0 (Yr.append (s := d0.files) (F := K18) hs elt110 Q2 Q0 Q0 rfl (xs := [(⟨x15, (⟨x16.status, x16.kind, x16.body, x16.age, x16.shares, x16.policy⟩ : TResponse)⟩ : TFile)]) (hs.box_cells Q1) (by intro x hx; obtain rfl := List.mem_singleton.1 hx; exact ⟨(by first | exact (Flat.any hokx15) | trivial | assumption | exact Flat.any (by assumption) | exact ⟨by omega, by omega⟩ | (show WfS _; unfold WfS; omega) | (show WfS _; unfold WfS; simp only [List.length_append, List.length_cons, List.length_nil] at *; omega) | (refine Ph.old ?_ hs; assumption)), ⟨(by first | exact (Flat.any hokx16).status | trivial | assumption | exact Flat.any (by assumption) | exact ⟨by omega, by omega⟩ | (show WfS _; unfold WfS; omega) | (show WfS _; unfold WfS; simp only [List.length_append, List.length_cons, List.length_nil] at *; omega) | (refine Ph.old ?_ hs; assumption)), (by first | exact (Flat.any hokx16).kind | trivial | assumption | exact Flat.any (by assumption) | exact ⟨by omega, by omega⟩ | (show WfS _; unfold WfS; omega) | (show WfS _; unfold WfS; simp only [List.length_append, List.length_cons, List.length_nil] at *; omega) | (refine Ph.old ?_ hs; assumption)), (by first | exact (Flat.any hokx16).body | trivial | assumption | exact Flat.any (by assumption) | exact ⟨by omega, by omega⟩ | (show WfS _; unfold WfS; omega) | (show WfS _; unfold WfS; simp only [List.length_append, List.length_cons, List.length_nil] at *; omega) | (refine Ph.old ?_ hs; assumption)), (by first | exact (Flat.any hokx16).age | trivial | assumption | exact Flat.any (by assumption) | exact ⟨by omega, by omega⟩ | (show WfS _; unfold WfS; omega) | (show WfS _; unfold WfS; simp only [List.length_append, List.length_cons, List.length_nil] at *; omega) | (refine Ph.old ?_ hs; assumption)), (by first | exact (Flat.any hokx16).shares | trivial | assumption | exact Flat.any (by assumption) | exact ⟨by omega, by omega⟩ | (show WfS _; unfold WfS; omega) | (show WfS _; unfold WfS; simp only [List.length_append, List.length_cons, List.length_nil] at *; omega) | (refine Ph.old ?_ hs; assumption)), (by first | exact (Flat.any hokx16).policy | trivial | assumption | exact Flat.any (by assumption) | exact ⟨by omega, by omega⟩ | (show WfS _; unfold WfS; omega) | (show WfS _; unfold WfS; simp only [List.length_append, List.length_cons, List.length_nil] at *; omega) | (refine Ph.old ?_ hs; assumption))⟩⟩) (by first | (unfold maxLen; omega) | omega | ((try simp only [lsz, strsz, List.length_map, PCache.lg, TCache.size, PPolicy.lg, TPolicy.size, List.length_cons, List.length_nil] at *); first | (unfold maxLen; omega) | omega)) (by first | (unfold maxLen; omega) | omega | ((try simp only [lsz, strsz, List.length_map, PCache.lg, TCache.size, PPolicy.lg, TPolicy.size, List.length_cons, List.length_nil] at *); first | (unfold maxLen; omega) | omega))) (by rintro _ w ⟨s19, F19, rfl, hl19, hs⟩; exact hs.only Q2) ?_
     clear hs; rintro _ w ⟨s19, F19, rfl, hl19, hs⟩
     refine WA.p (i := 13) Q0 Q6 Q6 Q6 Q0 (hs.only Q2) (fun w hs => Yl.indexAddrA slt56 Q0 Q0 hadr600 Q0 (hd0)) ?_
     refine WA.p (i := 14) Q0 Q6 Q6 Q6 Q0 (hs.only Q2) (fun w hs => Yl.fieldAddr fa112_1 Q0) ?_
     replace hs := PServer.join (⟨d0.host, s19⟩ : PServer) (hs.sel (D := [ow s19 F19]) Q2) (Flat.any hfl18.1)
     try simp only [List.cons_append, List.nil_append] at hs
     refine WA.s (i := 15) Q6 Q0 (Yr.storeHole (s := x1) (G := G18) (B := F19) (d := d0) (u := (⟨d0.host, s19⟩ : PServer)) (k := 0) (j := 1) hs Q2 Q0 Q0 Q0 hd0 ⟨_, by rfl, by rfl⟩ Q3 Q0 (by exact szf110)) (by rintro _ w ⟨s20, F20, hv20, hl20, hg20, hs⟩; exact hs.only Q2) ?_
     clear hs; rintro _ w ⟨s20, F20, hv20, hl20, hg20, hs⟩
     refine WA.done Q6 ?_
     refine At.blocknormal ?_
     refine At.then_ ?_
     refine WC.seq ?_
     refine Qm ?_
     refine Qa ?_
     refine WL.next ?_
     refine WC.ret ?_
     refine fin1' rfl Q0 ?_
     refine RetD.mk hs Q1 ?_
     refine ⟨s20, (hv20).symm, trivial, ?_, ?_⟩
     ·
      rw [hl20, List.map_set]
      refine Nat.le_trans lsz_set_le ?_
      simp only [PServer.lg, TServer.size, hl19, lsz_app, lsz_one, TFile.size, TResponse.size] at *
      omega
     ·
      exact hs.freshD (x := s20) (F := F20) Q2
    ·
     replace hs := Sat.boxow (l := ([([97, 112, 112] : Str), ([] : Str), ([122, 122, 122] : Str)] : List Str)) (hs.sel (D := [box b14 _ _]) Q2) rfl rfl (by decide) (ownL_mk_flat (lit_str Q0))
     try simp only [List.cons_append, List.nil_append] at hs
     refine WI.calld (i := 7) hs (T := 137) (b := b_) (c := c) Q2 (fun _ hs => hs.only Q2) Q0 Q0 (Yc.func Q0 fn61) (c_spec_l1Str c b_ (⟨[([97, 112, 112] : Str), ([] : Str), ([122, 122, 122] : Str)], some ⟨b14, 0, none⟩, 3⟩ : Sl Str) _ (Apart.own (s := (⟨[([97, 112, 112] : Str), ([] : Str), ([122, 122, 122] : Str)], some ⟨b14, 0, none⟩, 3⟩ : Sl Str)) (F := [b14]) hs Q2) (by exact Nat.succ_pos _) (hs.cur Q1) (Apart.now hb_c hs)) ?_
     clear hs; intro v w ho hR hs
     obtain ⟨x21, rfl, hokx21, hx21, hf21⟩ := hR
     clear ho hf21
     replace hx21 : x21 ∈ ([([97, 112, 112] : Str), ([] : Str), ([122, 122, 122] : Str)] : List Str) := hx21
     have hn21 := mem_len 3 hx21 Q0
     refine WA.two (i := 4) (j := 9) Q6 ?_ ?_
     ·
      refine WI.r (i := 4) Q0 Q0 (Yl.yr (Yl.loadC sca110 Q0 (Sl.Ok.at_ (hs.okow (x := x1) (F := F1) Q1) (by assumption)).2 Q0)) (by rintro _ _ ⟨rfl, rfl⟩; exact hs.only Q2) ?_
      rintro _ _ ⟨rfl, rfl⟩
      refine WA.calld (i := 9) hs (T := 137) (b := b_) (c := c) Q2 (fun _ hs => hs.only Q2) Q6 Q0 Q0 (Yc.func Q0 fn69) (c_spec_l10Any c b_ _ (hs.cur Q1) (Apart.now hb_c hs)) ?_
      clear hs; intro v w ho hR hs
      obtain ⟨x22, rfl, hokx22, hx22, hf22⟩ := hR
      clear ho hf22
      refine WA.p (i := 10) Q0 Q6 Q6 Q6 Q0 (hs.only Q2) (fun w hs => Yl.build bt115 Q0 Q4) ?_
      refine WA.r (i := 11) Q6 Q0 Q0 (Yr.buildSlice hs sll110 Q0 Q0 Q0 Q4 Q0) (by rintro _ w ⟨b23, rfl, hb, hs⟩; exact hs.only Q2) ?_
      clear hs; rintro _ w ⟨b23, rfl, hb, hs⟩; clear hb
      obtain ⟨G24, B24, hs⟩ := Sat.lend (hs.sel (D := [ow x1 F1]) Q2) hd0
      obtain ⟨K24, hfl24, hs⟩ := PServer.split hs
      try simp only [List.cons_append, List.nil_append] at hs
      refine WA.r (i := 12) Q6 Q0 Q0 (Yr.append (s := d0.files) (F := K24) hs elt110 Q2 Q0 Q0 rfl (xs := [(⟨x21, (⟨x22.status, x22.kind, x22.body, x22.age, x22.shares, x22.policy⟩ : TResponse)⟩ : TFile)]) (hs.box_cells Q1) (by intro x hx; obtain rfl := List.mem_singleton.1 hx; exact ⟨(by first | exact (Flat.any hokx21) | trivial | assumption | exact Flat.any (by assumption) | exact ⟨by omega, by omega⟩ | (show WfS _; unfold WfS; omega) | (show WfS _; unfold WfS; simp only [List.length_append, List.length_cons, List.length_nil] at *; omega) | (refine Ph.old ?_ hs; assumption)), ⟨(by first | exact (Flat.any hokx22).status | trivial | assumption | exact Flat.any (by assumption) | exact ⟨by omega, by omega⟩ | (show WfS _; unfold WfS; omega) | (show WfS _; unfold WfS; simp only [List.length_append, List.length_cons, List.length_nil] at *; omega) | (refine Ph.old ?_ hs; assumption)), (by first | exact (Flat.any hokx22).kind | trivial | assumption | exact Flat.any (by assumption) | exact ⟨by omega, by omega⟩ | (show WfS _; unfold WfS; omega) | (show WfS _; unfold WfS; simp only [List.length_append, List.length_cons, List.length_nil] at *; omega) | (refine Ph.old ?_ hs; assumption)), (by first | exact (Flat.any hokx22).body | trivial | assumption | exact Flat.any (by assumption) | exact ⟨by omega, by omega⟩ | (show WfS _; unfold WfS; omega) | (show WfS _; unfold WfS; simp only [List.length_append, List.length_cons, List.length_nil] at *; omega) | (refine Ph.old ?_ hs; assumption)), (by first | exact (Flat.any hokx22).age | trivial | assumption | exact Flat.any (by assumption) | exact ⟨by omega, by omega⟩ | (show WfS _; unfold WfS; omega) | (show WfS _; unfold WfS; simp only [List.length_append, List.length_cons, List.length_nil] at *; omega) | (refine Ph.old ?_ hs; assumption)), (by first | exact (Flat.any hokx22).shares | trivial | assumption | exact Flat.any (by assumption) | exact ⟨by omega, by omega⟩ | (show WfS _; unfold WfS; omega) | (show WfS _; unfold WfS; simp only [List.length_append, List.length_cons, List.length_nil] at *; omega) | (refine Ph.old ?_ hs; assumption)), (by first | exact (Flat.any hokx22).policy | trivial | assumption | exact Flat.any (by assumption) | exact ⟨by omega, by omega⟩ | (show WfS _; unfold WfS; omega) | (show WfS _; unfold WfS; simp only [List.length_append, List.length_cons, List.length_nil] at *; omega) | (refine Ph.old ?_ hs; assumption))⟩⟩) (by first | (unfold maxLen; omega) | omega | ((try simp only [lsz, strsz, List.length_map, PCache.lg, TCache.size, PPolicy.lg, TPolicy.size, List.length_cons, List.length_nil] at *); first | (unfold maxLen; omega) | omega)) (by first | (unfold maxLen; omega) | omega | ((try simp only [lsz, strsz, List.length_map, PCache.lg, TCache.size, PPolicy.lg, TPolicy.size, List.length_cons, List.length_nil] at *); first | (unfold maxLen; omega) | omega))) (by rintro _ w ⟨s25, F25, rfl, hl25, hs⟩; exact hs.only Q2) ?_
      clear hs; rintro _ w ⟨s25, F25, rfl, hl25, hs⟩
      refine WA.p (i := 13) Q0 Q6 Q6 Q6 Q0 (hs.only Q2) (fun w hs => Yl.indexAddrA slt56 Q0 Q0 hadr600 Q0 (hd0)) ?_
      refine WA.p (i := 14) Q0 Q6 Q6 Q6 Q0 (hs.only Q2) (fun w hs => Yl.fieldAddr fa112_1 Q0) ?_
      replace hs := PServer.join (⟨d0.host, s25⟩ : PServer) (hs.sel (D := [ow s25 F25]) Q2) (Flat.any hfl24.1)
      try simp only [List.cons_append, List.nil_append] at hs
      refine WA.s (i := 15) Q6 Q0 (Yr.storeHole (s := x1) (G := G24) (B := F25) (d := d0) (u := (⟨d0.host, s25⟩ : PServer)) (k := 0) (j := 1) hs Q2 Q0 Q0 Q0 hd0 ⟨_, by rfl, by rfl⟩ Q3 Q0 (by exact szf110)) (by rintro _ w ⟨s26, F26, hv26, hl26, hg26, hs⟩; exact hs.only Q2) ?_
      clear hs; rintro _ w ⟨s26, F26, hv26, hl26, hg26, hs⟩
      refine WA.done Q6 ?_
      refine At.blocknormal ?_
      refine At.then_ ?_
      refine WC.seq ?_
      refine Qm ?_
      refine Qa ?_
      refine WL.next ?_
      refine WC.ret ?_
      refine fin1' rfl Q0 ?_
      refine RetD.mk hs Q1 ?_
      refine ⟨s26, (hv26).symm, trivial, ?_, ?_⟩
      ·
       rw [hl26, List.map_set]
       refine Nat.le_trans lsz_set_le ?_
       simp only [PServer.lg, TServer.size, hl25, lsz_app, lsz_one, TFile.size, TResponse.size] at *
       omega
      ·
       exact hs.freshD (x := s26) (F := F26) Q2
     ·
      refine WI.calld (i := 9) hs (T := 137) (b := b_) (c := c) Q2 (fun _ hs => hs.only Q2) Q0 Q0 (Yc.func Q0 fn69) (c_spec_l10Any c b_ _ (hs.cur Q1) (Apart.now hb_c hs)) ?_
      clear hs; intro v w ho hR hs
      obtain ⟨x27, rfl, hokx27, hx27, hf27⟩ := hR
      clear ho hf27
      refine WA.p (i := 10) Q0 Q6 Q6 Q6 Q0 (hs.only Q2) (fun w hs => Yl.build bt115 Q0 Q4) ?_
      refine WA.dag' [(⟨4, 23, [], (fun _ v cs => v = Sl.v d0.files ∧ cs = [])⟩, []), (⟨11, 30, [], (fun _ v cs => ∃ b, v = .slice (some ⟨b, 0, none⟩) 1 1 ∧ cs = [box b 115 ((Ph.enc ((⟨x21, (⟨x27.status, x27.kind, x27.body, x27.age, x27.shares, x27.policy⟩ : TResponse)⟩ : TFile))))])⟩, [])] [false, false] [(0, _), (2, _), (3, _), (4, _), (5, _), (6, _), (7, _), (8, _), (9, _), (17, _), (18, _), (19, _), (20, _), (21, _), (22, _), (24, _), (25, _), (26, _), (27, _), (28, _), (29, _)] ⟨by rfl, by rfl, by rfl, by rfl, by rfl, by rfl, by rfl, by rfl, by rfl, by rfl, by rfl, by rfl, by rfl, by rfl, by rfl, by rfl, by rfl, by rfl, by rfl, by rfl, by rfl, trivial⟩ Q0 Q6 Q6 Q6 Q6 Q6 Q6 Q6 Q6 (fun _ hs => hs.only Q2) hs (fuel := 4) ⟨⟨local_const, ?_⟩, ⟨local_const, ?_⟩, trivial⟩ ?_
      ·
       clear hs
       intro w R hs
       simp only [List.cons_append, List.nil_append] at hs
       exact Gives.p' Q0 (Yl.loadC sca110 Q0 (Sl.Ok.at_ (hs.okow (x := x1) (F := F1) Q1) (by assumption)).2 Q0) ⟨[], ⟨rfl, rfl⟩, hs⟩
      ·
       clear hs
       intro w R hs
       simp only [List.cons_append, List.nil_append] at hs
       exact Gives.rr' Q0 (Yr.buildSlice hs sll110 Q0 Q0 Q0 Q4 Q0) (fun _ _ ⟨b, hv, _, hs1⟩ => ⟨[box b 115 ((Ph.enc ((⟨x21, (⟨x27.status, x27.kind, x27.body, x27.age, x27.shares, x27.policy⟩ : TResponse)⟩ : TFile))))], ⟨b, hv, rfl⟩, hs1⟩)
      clear hs
      rintro _ _ ⟨rfl, rfl⟩
      rintro _ _ ⟨b29, rfl, rfl⟩
      intro w hs
      simp only [List.cons_append, List.nil_append, cond_true, cond_false] at hs
      obtain ⟨G30, B30, hs⟩ := Sat.lend (hs.sel (D := [ow x1 F1]) Q2) hd0
      obtain ⟨K30, hfl30, hs⟩ := PServer.split hs
      try simp only [List.cons_append, List.nil_append] at hs
      refine WA.r (i := 12) Q6 Q0 Q0 (Yr.append (s := d0.files) (F := K30) hs elt110 Q2 Q0 Q0 rfl (xs := [(⟨x21, (⟨x27.status, x27.kind, x27.body, x27.age, x27.shares, x27.policy⟩ : TResponse)⟩ : TFile)]) (hs.box_cells Q1) (by intro x hx; obtain rfl := List.mem_singleton.1 hx; exact ⟨(by first | exact (Flat.any hokx21) | trivial | assumption | exact Flat.any (by assumption) | exact ⟨by omega, by omega⟩ | (show WfS _; unfold WfS; omega) | (show WfS _; unfold WfS; simp only [List.length_append, List.length_cons, List.length_nil] at *; omega) | (refine Ph.old ?_ hs; assumption)), ⟨(by first | exact (Flat.any hokx27).status | trivial | assumption | exact Flat.any (by assumption) | exact ⟨by omega, by omega⟩ | (show WfS _; unfold WfS; omega) | (show WfS _; unfold WfS; simp only [List.length_append, List.length_cons, List.length_nil] at *; omega) | (refine Ph.old ?_ hs; assumption)), (by first | exact (Flat.any hokx27).kind | trivial | assumption | exact Flat.any (by assumption) | exact ⟨by omega, by omega⟩ | (show WfS _; unfold WfS; omega) | (show WfS _; unfold WfS; simp only [List.length_append, List.length_cons, List.length_nil] at *; omega) | (refine Ph.old ?_ hs; assumption)), (by first | exact (Flat.any hokx27).body | trivial | assumption | exact Flat.any (by assumption) | exact ⟨by omega, by omega⟩ | (show WfS _; unfold WfS; omega) | (show WfS _; unfold WfS; simp only [List.length_append, List.length_cons, List.length_nil] at *; omega) | (refine Ph.old ?_ hs; assumption)), (by first | exact (Flat.any hokx27).age | trivial | assumption | exact Flat.any (by assumption) | exact ⟨by omega, by omega⟩ | (show WfS _; unfold WfS; omega) | (show WfS _; unfold WfS; simp only [List.length_append, List.length_cons, List.length_nil] at *; omega) | (refine Ph.old ?_ hs; assumption)), (by first | exact (Flat.any hokx27).shares | trivial | assumption | exact Flat.any (by assumption) | exact ⟨by omega, by omega⟩ | (show WfS _; unfold WfS; omega) | (show WfS _; unfold WfS; simp only [List.length_append, List.length_cons, List.length_nil] at *; omega) | (refine Ph.old ?_ hs; assumption)), (by first | exact (Flat.any hokx27).policy | trivial | assumption | exact Flat.any (by assumption) | exact ⟨by omega, by omega⟩ | (show WfS _; unfold WfS; omega) | (show WfS _; unfold WfS; simp only [List.length_append, List.length_cons, List.length_nil] at *; omega) | (refine Ph.old ?_ hs; assumption))⟩⟩) (by first | (unfold maxLen; omega) | omega | ((try simp only [lsz, strsz, List.length_map, PCache.lg, TCache.size, PPolicy.lg, TPolicy.size, List.length_cons, List.length_nil] at *); first | (unfold maxLen; omega) | omega)) (by first | (unfold maxLen; omega) | omega | ((try simp only [lsz, strsz, List.length_map, PCache.lg, TCache.size, PPolicy.lg, TPolicy.size, List.length_cons, List.length_nil] at *); first | (unfold maxLen; omega) | omega))) (by rintro _ w ⟨s31, F31, rfl, hl31, hs⟩; exact hs.only Q2) ?_
      clear hs; rintro _ w ⟨s31, F31, rfl, hl31, hs⟩
      refine WA.p (i := 13) Q0 Q6 Q6 Q6 Q0 (hs.only Q2) (fun w hs => Yl.indexAddrA slt56 Q0 Q0 hadr600 Q0 (hd0)) ?_
      refine WA.p (i := 14) Q0 Q6 Q6 Q6 Q0 (hs.only Q2) (fun w hs => Yl.fieldAddr fa112_1 Q0) ?_
      replace hs := PServer.join (⟨d0.host, s31⟩ : PServer) (hs.sel (D := [ow s31 F31]) Q2) (Flat.any hfl30.1)
      try simp only [List.cons_append, List.nil_append] at hs
      refine WA.s (i := 15) Q6 Q0 (Yr.storeHole (s := x1) (G := G30) (B := F31) (d := d0) (u := (⟨d0.host, s31⟩ : PServer)) (k := 0) (j := 1) hs Q2 Q0 Q0 Q0 hd0 ⟨_, by rfl, by rfl⟩ Q3 Q0 (by exact szf110)) (by rintro _ w ⟨s32, F32, hv32, hl32, hg32, hs⟩; exact hs.only Q2) ?_
      clear hs; rintro _ w ⟨s32, F32, hv32, hl32, hg32, hs⟩
      refine WA.done Q6 ?_
      refine At.blocknormal ?_
      refine At.then_ ?_
      refine WC.seq ?_
      refine Qm ?_
      refine Qa ?_
      refine WL.next ?_
      refine WC.ret ?_
      refine fin1' rfl Q0 ?_
      refine RetD.mk hs Q1 ?_
      refine ⟨s32, (hv32).symm, trivial, ?_, ?_⟩
      ·
       rw [hl32, List.map_set]
       refine Nat.le_trans lsz_set_le ?_
       simp only [PServer.lg, TServer.size, hl31, lsz_app, lsz_one, TFile.size, TResponse.size] at *
       omega
      ·
       exact hs.freshD (x := s32) (F := F32) Q2
  ·
   replace h2 := of_decide_eq_false h2
   refine WC.skip ?_
   refine At.blocknormal ?_
   refine At.then_ ?_
   refine WC.seq ?_
   refine Qm ?_
   refine Qa ?_
   refine WL.next ?_
   refine WC.ret ?_
   refine fin1' rfl Q0 ?_
   refine RetD.mk hs Q1 ?_
   refine ⟨x1, rfl, trivial, ?_, ?_⟩
   ·
    repeat' apply And.intro
    all_goals (try dsimp only)
    all_goals first | trivial | assumption | omega | ((try simp only [List.length_append, List.length_cons, List.length_nil, lsz_app, lsz_one, lsz_cons, lsz_nil, TAddr.size, TResponse.size, TRequest.size, TPolicy.size, TEntry.size, TCache.size, strsz, TServer.size, TFile.size, List.map_append, List.map_cons, List.map_nil, PServer.lg, PPolicy.lg, PCache.lg] at *); first | omega | assumption)
   ·
    exact hs.freshD (x := x1) (F := F1) Q2

theorem c_spec_DrawPutFile (code : (Sl UInt8)) (w : World) (h_code : Ph.ok w code)  : Calls Tryd.prog 29 [Sl.v code].toArray w (Ret w (fun v w' => ∃ (l : Sl PServer) (a : TAddr) (x : TResponse), v = .tuple #[l.v, .agg (Ph.enc a).toArray, .agg (Ph.enc x).toArray] ∧ (Ph.ok w' a ∧ Ph.ok w' x) ∧ (lsz TServer.size (l.l.map PServer.lg) ≤ 90000 ∧ a.size ≤ 14 ∧ x.size ≤ 1500) ∧ Fresh w l w')) := by
 refine enterN 18 Tryd.func29 rfl rfl rfl ?_
 have hs := Sat.start w
 refine WC.seq ?_
 refine Qa ?_
 refine WL.r Q0 (Yr.alloc hs zt43) ?_
 clear hs; rintro _ w ⟨b1, rfl, hb, hs⟩; clear hb
 refine WL.r Q0 (Yr.alloc hs zt45) ?_
 clear hs; rintro _ w ⟨b2, rfl, hb, hs⟩; clear hb
 refine WL.next ?_
 refine WC.seq ?_
 refine Qm ?_
 refine WL.calln hs Q0 (Yc.func Q0 fn59) (c_spec_l1New _ _ (Ph.old h_code hs)) ?_
 clear hs; intro c3 w hs
 refine Qa ?_
 refine WL.next ?_
 refine WC.seq ?_
 refine Qm ?_
 refine WL.calld hs (T := 137) (b := code) (c := c3) Q2 Q0 (Yc.func Q0 fn85) (c_spec_l12Any c3 code _ (hs.cur Q1) (Apart.new (by first | assumption) hs Q1)) ?_
 clear hs; intro v w ho hR hs
 obtain ⟨x4, rfl, _, hx4, hf4⟩ := hR
 obtain ⟨F4, hs⟩ := hs.addF ho hf4
 clear ho hf4
 refine Qa ?_
 refine WL.next ?_
 refine WC.seq ?_
 refine Qm ?_
 refine WL.calld hs (T := 137) (b := code) (c := c3) Q2 Q0 (Yc.func Q0 fn68) (c_spec_l4Any c3 code _ (hs.cur Q1) (Apart.new (by first | assumption) hs Q1)) ?_
 clear hs; intro v w ho hR hs
 obtain ⟨x5, rfl, hokx5, hx5, hf5⟩ := hR
 clear ho hf5
 have hn5 := hx5.1; have hm5 := hx5.2
 refine WL.r Q0 (Yr.alloc hs zt43) ?_
 clear hs; rintro _ w ⟨b6, rfl, hb, hs⟩; clear hb
 refine WL.s (Yr.storeB hs Q0 Q0 Q0 Q5 Q3 Q0 (by exact szf43)) ?_
 clear hs; rintro _ w hs
 refine WL.next ?_
 refine WC.anynX (K := [box b1 _ _, box b2 _ _]) mixed hs Q2 ?_
 clear hs; intro w hs
 refine WA.p (i := 0) Q0 Q6 Q6 Q6 Q0 (hs.only Q2) (fun w hs => Yl.move Q0) ?_
 refine WA.p (i := 1) Q0 Q6 Q6 Q6 Q0 (hs.only Q2) (fun w hs => Yl.loadAB agg43 Q0 hs Q1 Q0 Q0) ?_
 refine WA.p (i := 2) Q0 Q6 Q6 Q6 Q0 (hs.only Q2) (fun w hs => Yl.move Q0) ?_
 refine WA.calld (i := 3) hs (T := 137) (b := code) (c := c3) Q2 (fun _ hs => hs.only Q2) Q6 Q0 Q0 (Yc.func Q0 fn69) (c_spec_l10Any c3 code _ (hs.cur Q1) (Apart.new (by first | assumption) hs Q1)) ?_
 clear hs; intro v w ho hR hs
 obtain ⟨x7, rfl, hokx7, hx7, hf7⟩ := hR
 clear ho hf7
 refine WA.p (i := 4) Q0 Q6 Q6 Q6 Q0 (hs.only Q2) (fun w hs => Yl.assign Q0) ?_
 refine WA.s (i := 5) Q6 Q0 (Yr.storeB hs Q0 Q0 Q0 Q5 Q3 Q0 (by exact szf43)) (by rintro _ w hs; exact hs.only Q2) ?_
 clear hs; rintro _ w hs
 refine WA.s (i := 6) Q6 Q0 (Yr.storeB hs Q0 Q0 Q0 Q5 Q3 Q0 (by exact szf45)) (by rintro _ w hs; exact hs.only Q2) ?_
 clear hs; rintro _ w hs
 refine WA.donen Q6 ?_
 refine WC.ret ?_
 refine finT (rs := [.tmp 2, .cell 3 43, .cell 4 45]) (vs := [_, _, _]) rfl (by decide) hs (RV.tmp Q0 (RV.cell agg43 Q0 Q1 Q0 (RV.cell agg45 Q0 Q1 Q0 RV.nil))) ?_
 refine Ret.mk hs ?_
 refine ⟨x4, (⟨x5.host, x5.path⟩ : TAddr), (⟨x7.status, x7.kind, x7.body, x7.age, x7.shares, x7.policy⟩ : TResponse), rfl, ⟨⟨(by first | exact (Flat.any hokx5).host | trivial | assumption | exact Flat.any (by assumption) | exact ⟨by omega, by omega⟩ | (show WfS _; unfold WfS; omega) | (show WfS _; unfold WfS; simp only [List.length_append, List.length_cons, List.length_nil] at *; omega) | (refine Ph.old ?_ hs; assumption)), (by first | exact (Flat.any hokx5).path | trivial | assumption | exact Flat.any (by assumption) | exact ⟨by omega, by omega⟩ | (show WfS _; unfold WfS; omega) | (show WfS _; unfold WfS; simp only [List.length_append, List.length_cons, List.length_nil] at *; omega) | (refine Ph.old ?_ hs; assumption))⟩, ⟨(by first | exact (Flat.any hokx7).status | trivial | assumption | exact Flat.any (by assumption) | exact ⟨by omega, by omega⟩ | (show WfS _; unfold WfS; omega) | (show WfS _; unfold WfS; simp only [List.length_append, List.length_cons, List.length_nil] at *; omega) | (refine Ph.old ?_ hs; assumption)), (by first | exact (Flat.any hokx7).kind | trivial | assumption | exact Flat.any (by assumption) | exact ⟨by omega, by omega⟩ | (show WfS _; unfold WfS; omega) | (show WfS _; unfold WfS; simp only [List.length_append, List.length_cons, List.length_nil] at *; omega) | (refine Ph.old ?_ hs; assumption)), (by first | exact (Flat.any hokx7).body | trivial | assumption | exact Flat.any (by assumption) | exact ⟨by omega, by omega⟩ | (show WfS _; unfold WfS; omega) | (show WfS _; unfold WfS; simp only [List.length_append, List.length_cons, List.length_nil] at *; omega) | (refine Ph.old ?_ hs; assumption)), (by first | exact (Flat.any hokx7).age | trivial | assumption | exact Flat.any (by assumption) | exact ⟨by omega, by omega⟩ | (show WfS _; unfold WfS; omega) | (show WfS _; unfold WfS; simp only [List.length_append, List.length_cons, List.length_nil] at *; omega) | (refine Ph.old ?_ hs; assumption)), (by first | exact (Flat.any hokx7).shares | trivial | assumption | exact Flat.any (by assumption) | exact ⟨by omega, by omega⟩ | (show WfS _; unfold WfS; omega) | (show WfS _; unfold WfS; simp only [List.length_append, List.length_cons, List.length_nil] at *; omega) | (refine Ph.old ?_ hs; assumption)), (by first | exact (Flat.any hokx7).policy | trivial | assumption | exact Flat.any (by assumption) | exact ⟨by omega, by omega⟩ | (show WfS _; unfold WfS; omega) | (show WfS _; unfold WfS; simp only [List.length_append, List.length_cons, List.length_nil] at *; omega) | (refine Ph.old ?_ hs; assumption))⟩⟩, ?_, ?_⟩
 ·
  repeat' apply And.intro
  all_goals (try dsimp only)
  all_goals first | trivial | assumption | omega | ((try simp only [List.length_append, List.length_cons, List.length_nil, lsz_app, lsz_one, lsz_cons, lsz_nil, TAddr.size, TResponse.size, TRequest.size, TPolicy.size, TEntry.size, TCache.size, strsz, TServer.size, TFile.size, List.map_append, List.map_cons, List.map_nil, PServer.lg, PPolicy.lg, PCache.lg] at *); first | omega | assumption)
 ·
  exact hs.fresh (x := x4) (F := F4) Q1

end Go.Sw
