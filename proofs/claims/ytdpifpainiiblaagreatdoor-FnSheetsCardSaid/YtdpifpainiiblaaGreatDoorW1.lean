/- Walks: what each function of the program returns, for every input. Printed by gen.py. -/
import Derived.Test.YtdpifpainiiblaaGreatDoorW0
set_option linter.all false
namespace Go.Sw
open Go Go.RowKit Go.Proofs

theorem c_spec_TagOf (s : Str) (w : World) (h_s : Ph.ok w s)  : Calls Tryz.prog 148 [S s].toArray w (Ret w (fun v w' => ∃ (t : PToken) (ok : Bool), v = .tuple #[.agg (Ph.enc t).toArray, Bo ok] ∧ (True) ∧ (t.lg.size ≤ 2000) ∧ Fresh w t w')) := by
 have hw : s.length ≤ 9223372036854775807 := h_s
 refine enterN 100 Tryz.func148 rfl rfl rfl ?_
 have hs := Sat.start w
 refine WC.seq ?_
 refine WL.r Q0 (Yr.alloc hs zt112) ?_
 clear hs; rintro _ w ⟨b1, rfl, hb, hs⟩; clear hb
 refine Qa ?_
 refine WL.next ?_
 refine WC.seq' ?_
 refine WC.seq ?_
 refine Qm ?_
 refine WL.p Q0 (Yl.len_str str9 Q0) ?_
 refine WL.p Q0 (Yl.gtr Q0 Q0) ?_
 refine WL.next ?_
 refine WC.condS Q0 (fun h1 => ?_) (fun h1 => ?_)
 ·
  replace h1 := of_decide_eq_true h1
  refine WC.seq ?_
  refine WL.p Q0 (Yl.build bt112 Q0 Q4) ?_
  refine WL.s (Yr.storeB hs Q0 Q0 Q0 Q5 Q3 Q0 (by exact szf112)) ?_
  clear hs; rintro _ w hs
  refine Qa ?_
  refine WL.next ?_
  refine WC.ret ?_
  refine At.thenret ?_
  refine fin2c rfl agg112 Q0 Q0 hs Q1 Q0 ?_
  replace hs := Sat.nilsl (α := TAttr) hs
  obtain ⟨Fj2, hs⟩ : ∃ F, Sat _ _ _ (ow (⟨0, ([] : Str), ⟨[], none, 0⟩, ([] : Str)⟩ : PToken) F :: _) := ⟨_, PToken.join (⟨0, ([] : Str), ⟨[], none, 0⟩, ([] : Str)⟩ : PToken) (hs.sel (D := [ow (⟨[], none, 0⟩ : (Sl TAttr)) []]) Q2) (by first | exact (show WfI 0 from ⟨by omega, by omega⟩) | trivial | assumption | exact Flat.any (by assumption) | exact ⟨by omega, by omega⟩ | (show WfS _; unfold WfS; omega) | (show WfS _; unfold WfS; simp only [List.length_append, List.length_cons, List.length_nil] at *; omega) | (refine Ph.old ?_ hs; assumption)) (by first | exact (show WfS [] from Nat.zero_le _) | trivial | assumption | exact Flat.any (by assumption) | exact ⟨by omega, by omega⟩ | (show WfS _; unfold WfS; omega) | (show WfS _; unfold WfS; simp only [List.length_append, List.length_cons, List.length_nil] at *; omega) | (refine Ph.old ?_ hs; assumption)) (by first | exact (show WfS [] from Nat.zero_le _) | trivial | assumption | exact Flat.any (by assumption) | exact ⟨by omega, by omega⟩ | (show WfS _; unfold WfS; omega) | (show WfS _; unfold WfS; simp only [List.length_append, List.length_cons, List.length_nil] at *; omega) | (refine Ph.old ?_ hs; assumption))⟩
  try simp only [List.cons_append, List.nil_append] at hs
  refine Ret.mk hs ?_
  refine ⟨(⟨0, ([] : Str), ⟨[], none, 0⟩, ([] : Str)⟩ : PToken), _, rfl, trivial, ?_, ?_⟩
  ·
   repeat' apply And.intro
   all_goals (try dsimp only)
   all_goals first | trivial | assumption | omega | ((try simp only [List.length_append, List.length_cons, List.length_nil, lsz_app, lsz_one, lsz_cons, lsz_nil, TAddr.size, TResponse.size, TRequest.size, TPolicy.size, TEntry.size, TCache.size, strsz, TLine.size, TSent.size, TServer.size, TFile.size, List.map_append, List.map_cons, List.map_nil, PServer.lg, PToken.lg, TToken.size, PNode.lg, TNode.size, TAttr.size, PBuilder.lg, TBuilder.size, TTokenizer.size, List.length_take, List.length_drop, PPolicy.lg, PCache.lg] at *); first | omega | assumption)
  ·
   exact hs.fresh (x := (⟨0, ([] : Str), ⟨[], none, 0⟩, ([] : Str)⟩ : PToken)) (F := Fj2) Q1
 ·
  replace h1 := of_decide_eq_false h1
  refine WC.skipn ?_
  refine WC.seq' ?_
  refine WC.seqJ (fun b => [(21, Bo b)]) (fun b => b = true → 0 < s.length) [(0, _), (2, _), (3, _), (12, _)] hs ⟨by rfl, by rfl, by rfl, by rfl, trivial⟩ ?_ ?_
  ·
   intro Q9 join
   refine WC.region ?_
   refine Qm ?_
   refine WL.p Q0 (Yl.len_str str9 Q0) ?_
   refine WL.p Q0 (Yl.gtr Q0 Q0) ?_
   refine Qm ?_
   refine WL.split (d := 17) Q0 (fun h2 => ?_) (fun h2 => ?_)
   ·
    replace h2 := of_decide_eq_true h2
    have hl9 : 0 < s.length := by omega
    refine WL.run (d := 17) Q0 Q0 ?_
    refine Qm ?_
    refine WL.run (d := 17) Q0 Q0 ?_
    refine WL.p Q0 (Yl.index str9 Q0 Q0 Q0 (by first | assumption | exact List.getElem?_eq_getElem Q7)) ?_
    refine WL.run (d := 17) Q0 Q0 ?_
    refine WL.p Q0 (Yl.eqi Q0 Q0) ?_
    refine WL.p Q0 (Yl.pickT Q0 Q0) ?_
    refine WL.nil ?_
    refine join _ _ _ ?_ (hs.only Q2) ⟨by rfl, trivial⟩ ⟨by rfl, by rfl, by rfl, by rfl, trivial⟩
    first
     | exact fun h => absurd h (by decide)
     | (intro _; omega)
   ·
    replace h2 := of_decide_eq_false h2
    refine WL.skip (d := 17) Q0 Q0 Q0 Q0 ?_
    refine WL.skip (d := 17) Q0 Q0 Q0 Q0 ?_
    refine WL.skip (d := 17) Q0 Q0 Q0 Q0 ?_
    refine WL.p Q0 (Yl.pickF Q0 Q0) ?_
    refine WL.nil ?_
    refine join _ _ _ ?_ (hs.only Q2) ⟨by rfl, trivial⟩ ⟨by rfl, by rfl, by rfl, by rfl, trivial⟩
    first
     | exact fun h => absurd h (by decide)
     | (intro _; omega)
  ·
   clear hs; rintro bj21 w hjb21 hs
   refine WC.condS Q0 (fun h2 => ?_) (fun h2 => ?_)
   ·
    have hl9 := hjb21 h2
    refine WC.seq' ?_
    refine WC.seq ?_
    refine Qm ?_
    refine WL.p Q0 (Yl.slice_str (l := 1) str9 Q0 (by exact ⟨_, by rfl⟩) (by exact rfl) Q7 Q7) ?_
    refine WL.callp hs Q0 (Yc.func Q0 fn37) (c_spec_IsName _ _ (by show WfS _; unfold WfS; simp only [List.length_take, List.length_drop]; omega)) ?_
    clear hs; intro w hs
    refine WL.p Q0 (Yl.not Q0) ?_
    refine WL.next ?_
    refine WC.condS Q0 (fun h3 => ?_) (fun h3 => ?_)
    ·
     replace h3 := not_eq_true h3
     refine WC.seq ?_
     refine WL.p Q0 (Yl.build bt112 Q0 Q4) ?_
     refine WL.s (Yr.storeB hs Q0 Q0 Q0 Q5 Q3 Q0 (by exact szf112)) ?_
     clear hs; rintro _ w hs
     refine Qa ?_
     refine WL.next ?_
     refine WC.ret ?_
     refine At.thenret ?_
     refine At.thenret ?_
     refine fin2c rfl agg112 Q0 Q0 hs Q1 Q0 ?_
     replace hs := Sat.nilsl (α := TAttr) hs
     obtain ⟨Fj3, hs⟩ : ∃ F, Sat _ _ _ (ow (⟨0, ([] : Str), ⟨[], none, 0⟩, ([] : Str)⟩ : PToken) F :: _) := ⟨_, PToken.join (⟨0, ([] : Str), ⟨[], none, 0⟩, ([] : Str)⟩ : PToken) (hs.sel (D := [ow (⟨[], none, 0⟩ : (Sl TAttr)) []]) Q2) (by first | exact (show WfI 0 from ⟨by omega, by omega⟩) | trivial | assumption | exact Flat.any (by assumption) | exact ⟨by omega, by omega⟩ | (show WfS _; unfold WfS; omega) | (show WfS _; unfold WfS; simp only [List.length_append, List.length_cons, List.length_nil] at *; omega) | (refine Ph.old ?_ hs; assumption)) (by first | exact (show WfS [] from Nat.zero_le _) | trivial | assumption | exact Flat.any (by assumption) | exact ⟨by omega, by omega⟩ | (show WfS _; unfold WfS; omega) | (show WfS _; unfold WfS; simp only [List.length_append, List.length_cons, List.length_nil] at *; omega) | (refine Ph.old ?_ hs; assumption)) (by first | exact (show WfS [] from Nat.zero_le _) | trivial | assumption | exact Flat.any (by assumption) | exact ⟨by omega, by omega⟩ | (show WfS _; unfold WfS; omega) | (show WfS _; unfold WfS; simp only [List.length_append, List.length_cons, List.length_nil] at *; omega) | (refine Ph.old ?_ hs; assumption))⟩
     try simp only [List.cons_append, List.nil_append] at hs
     refine Ret.mk hs ?_
     refine ⟨(⟨0, ([] : Str), ⟨[], none, 0⟩, ([] : Str)⟩ : PToken), _, rfl, trivial, ?_, ?_⟩
     ·
      repeat' apply And.intro
      all_goals (try dsimp only)
      all_goals first | trivial | assumption | omega | ((try simp only [List.length_append, List.length_cons, List.length_nil, lsz_app, lsz_one, lsz_cons, lsz_nil, TAddr.size, TResponse.size, TRequest.size, TPolicy.size, TEntry.size, TCache.size, strsz, TLine.size, TSent.size, TServer.size, TFile.size, List.map_append, List.map_cons, List.map_nil, PServer.lg, PToken.lg, TToken.size, PNode.lg, TNode.size, TAttr.size, PBuilder.lg, TBuilder.size, TTokenizer.size, List.length_take, List.length_drop, PPolicy.lg, PCache.lg] at *); first | omega | assumption)
     ·
      exact hs.fresh (x := (⟨0, ([] : Str), ⟨[], none, 0⟩, ([] : Str)⟩ : PToken)) (F := Fj3) Q1
    ·
     replace h3 := not_eq_false h3
     refine WC.skipn ?_
     refine WC.seq ?_
     refine Qm ?_
     refine WL.p Q0 (Yl.slice_str (l := 1) str9 Q0 (by exact ⟨_, by rfl⟩) (by exact rfl) Q7 Q7) ?_
     refine WL.p Q0 (Yl.build bt112 Q0 Q4) ?_
     refine WL.s (Yr.storeB hs Q0 Q0 Q0 Q5 Q3 Q0 (by exact szf112)) ?_
     clear hs; rintro _ w hs
     refine Qa ?_
     refine WL.next ?_
     refine WC.ret ?_
     refine At.thenret ?_
     refine fin2c rfl agg112 Q0 Q0 hs Q1 Q0 ?_
     replace hs := Sat.nilsl (α := TAttr) hs
     obtain ⟨Fj4, hs⟩ : ∃ F, Sat _ _ _ (ow (⟨2, ((s.drop 1).take (s.length - 1)), ⟨[], none, 0⟩, ([] : Str)⟩ : PToken) F :: _) := ⟨_, PToken.join (⟨2, ((s.drop 1).take (s.length - 1)), ⟨[], none, 0⟩, ([] : Str)⟩ : PToken) (hs.sel (D := [ow (⟨[], none, 0⟩ : (Sl TAttr)) []]) Q2) (by first | exact (show WfI 2 from ⟨by omega, by omega⟩) | trivial | assumption | exact Flat.any (by assumption) | exact ⟨by omega, by omega⟩ | (show WfS _; unfold WfS; omega) | (show WfS _; unfold WfS; simp only [List.length_append, List.length_cons, List.length_nil] at *; omega) | (refine Ph.old ?_ hs; assumption)) (by first | exact (by show WfS _; unfold WfS; simp only [List.length_take, List.length_drop]; omega) | trivial | assumption | exact Flat.any (by assumption) | exact ⟨by omega, by omega⟩ | (show WfS _; unfold WfS; omega) | (show WfS _; unfold WfS; simp only [List.length_append, List.length_cons, List.length_nil] at *; omega) | (refine Ph.old ?_ hs; assumption)) (by first | exact (show WfS [] from Nat.zero_le _) | trivial | assumption | exact Flat.any (by assumption) | exact ⟨by omega, by omega⟩ | (show WfS _; unfold WfS; omega) | (show WfS _; unfold WfS; simp only [List.length_append, List.length_cons, List.length_nil] at *; omega) | (refine Ph.old ?_ hs; assumption))⟩
     try simp only [List.cons_append, List.nil_append] at hs
     refine Ret.mk hs ?_
     refine ⟨(⟨2, ((s.drop 1).take (s.length - 1)), ⟨[], none, 0⟩, ([] : Str)⟩ : PToken), _, rfl, trivial, ?_, ?_⟩
     ·
      repeat' apply And.intro
      all_goals (try dsimp only)
      all_goals first | trivial | assumption | omega | ((try simp only [List.length_append, List.length_cons, List.length_nil, lsz_app, lsz_one, lsz_cons, lsz_nil, TAddr.size, TResponse.size, TRequest.size, TPolicy.size, TEntry.size, TCache.size, strsz, TLine.size, TSent.size, TServer.size, TFile.size, List.map_append, List.map_cons, List.map_nil, PServer.lg, PToken.lg, TToken.size, PNode.lg, TNode.size, TAttr.size, PBuilder.lg, TBuilder.size, TTokenizer.size, List.length_take, List.length_drop, PPolicy.lg, PCache.lg] at *); first | omega | assumption)
     ·
      exact hs.fresh (x := (⟨2, ((s.drop 1).take (s.length - 1)), ⟨[], none, 0⟩, ([] : Str)⟩ : PToken)) (F := Fj4) Q1
   ·
    refine WC.skipn ?_
    refine WC.seq ?_
    refine Qm ?_
    refine WL.call hs Q0 (Yc.func Q0 fn36) (c_spec_l5Split _ 32 _ Q7) ?_
    have hs0 := hs; clear hs; intro v w hb hR hs; clear hs
    obtain ⟨x5, rfl, hx5, hf5⟩ := hR
    obtain ⟨F5, hs⟩ := hf5.sat hs0 hb; clear hs0 hf5
    obtain ⟨a0, ha0⟩ := exists_get (l := x5.l) (k := 0) (by rw [hx5]; exact List.length_pos_iff.2 (splitC_ne _ _))
    have hc5 := splitC_len 32 s; rw [← hx5] at hc5
    have ha5 := splitC_mem_le (List.mem_of_getElem? (hx5 ▸ ha0))
    have hle5 := Sl.Ok.le (hs.okow (x := x5) (F := F5) Q1)
    refine Qa ?_
    refine WL.next ?_
    refine WC.seq ?_
    refine Qm ?_
    refine WL.p Q0 (Yl.indexAddr (k := 0) slt48 Q0 Q0 (hs.okow (x := x5) (F := F5) Q1) Q0 (ha0)) ?_
    refine WL.p Q0 (Yl.loadC0 sca9 Q0 (Sl.Ok.at_ (hs.okow (x := x5) (F := F5) Q1) (by assumption)).2 Q0) ?_
    refine WL.p Q0 (Yl.build bt112 Q0 Q4) ?_
    refine WL.r Q0 (Yr.alloc hs zt112) ?_
    clear hs; rintro _ w ⟨b6, rfl, hb, hs⟩; clear hb
    refine WL.s (Yr.storeB hs Q0 Q0 Q0 Q5 Q3 Q0 (by exact szf112)) ?_
    clear hs; rintro _ w hs
    refine WL.next ?_
    refine WC.seq' ?_
    refine WC.seq ?_
    refine Qa ?_
    refine WL.next ?_
    refine WC.block ?_
    replace hs := Sat.nilsl (α := TAttr) hs
    refine WC.loopC (ι := Nat × Sl TAttr × List Nat) (fun ⟨k, q, F⟩ => x5.l.length - k) (fun ⟨k, q, F⟩ => [(6, I (k : Int))]) (fun ⟨k, q, F⟩ => [box b6 112 [I 1, S a0, Sl.v q, S []], ow q F, ow x5 F5]) (fun ⟨k, q, F⟩ => 1 ≤ k ∧ k ≤ x5.l.length ∧ lsz TAttr.size q.l ≤ k * 29) [(0, _), (2, _), (4, _), (5, _), (12, _), (21, _)] (1, ⟨[], none, 0⟩, []) (hs.sel (D := [box b6 112 _, ow (⟨[], none, 0⟩ : Sl TAttr) [], ow x5 F5]) Q2) ⟨by rfl, by rfl, by rfl, by rfl, by rfl, by rfl, trivial⟩ ⟨by rfl, trivial⟩ ?_ ?_
    ·
     exact ⟨by omega, by rw [hx5]; exact List.length_pos_iff.2 (splitC_ne _ _), by simp [lsz, lsum]⟩
    clear hs; rintro ⟨k, q, F⟩ w ⟨hJ0, hJ1, hJ2⟩ hs
    simp only [List.cons_append, List.nil_append] at hs
    refine WC.seq' ?_
    refine WC.seq ?_
    refine Qm ?_
    refine Qm ?_
    refine WL.p Q0 (Yl.len_sl slu48 Q0) ?_
    refine WL.p Q0 (Yl.lss Q0 Q0) ?_
    refine WL.next ?_
    refine WC.condS Q0 (fun h3 => ?_) (fun h3 => ?_)
    ·
     replace h3 := of_decide_eq_true h3
     obtain ⟨d, hd⟩ := exists_get (l := x5.l) (k := k) Q7
     refine WC.skipn ?_
     refine WC.seq' ?_
     refine WC.block ?_
     refine WC.seq ?_
     refine Qm ?_
     refine Qm ?_
     refine WL.p Q0 (Yl.indexAddr slt48 Q0 Q0 (hs.okow (x := x5) (F := F5) Q1) Q0 (hd)) ?_
     refine WL.p Q0 (Yl.loadC0 sca9 Q0 (Sl.Ok.at_ (hs.okow (x := x5) (F := F5) Q1) (by assumption)).2 Q0) ?_
     refine WL.call hs Q0 (Yc.func Q0 fn36) (c_spec_l5Split _ 61 _ (by have := splitC_mem_le (List.mem_of_getElem? (hx5 ▸ hd)); omega)) ?_
     have hs0 := hs; clear hs; intro v w hb hR hs; clear hs
     obtain ⟨x7, rfl, hx7, hf7⟩ := hR
     obtain ⟨F7, hs⟩ := hf7.sat hs0 hb; clear hs0 hf7
     have hle7 := Sl.Ok.le (hs.okow (x := x7) (F := F7) Q1)
     refine Qa ?_
     refine WL.next ?_
     refine WC.seq' ?_
     refine WC.seq ?_
     refine Qm ?_
     refine WL.p Q0 (Yl.len_sl slu48 Q0) ?_
     refine WL.p Q0 (Yl.nei Q0 Q0) ?_
     refine Qm ?_
     refine WL.split (d := 50) Q0 (fun h4 => ?_) (fun h4 => ?_)
     ·
      replace h4 := not_eq_true h4
      replace h4 := of_decide_eq_false h4
      refine WL.skip (d := 50) Q0 Q0 Q0 Q0 ?_
      refine WL.skip (d := 50) Q0 Q0 Q0 Q0 ?_
      refine WL.skip (d := 50) Q0 Q0 Q0 Q0 ?_
      refine WL.skip (d := 50) Q0 Q0 Q0 Q0 ?_
      refine WL.skip (d := 50) Q0 Q0 Q0 Q0 ?_
      refine WL.p Q0 (Yl.pickT Q0 Q0) ?_
      refine Qm ?_
      refine WL.skip (d := 57) Q0 Q0 Q0 Q0 ?_
      refine WL.skip (d := 57) Q0 Q0 Q0 Q0 ?_
      refine WL.skip (d := 57) Q0 Q0 Q0 Q0 ?_
      refine WL.skip (d := 57) Q0 Q0 Q0 Q0 ?_
      refine WL.skip (d := 57) Q0 Q0 Q0 Q0 ?_
      refine WL.p Q0 (Yl.pickT Q0 Q0) ?_
      refine WL.next ?_
      refine WC.condT Q0 ?_
      refine WC.seq ?_
      refine WL.p Q0 (Yl.build bt112 Q0 Q4) ?_
      refine WL.s (Yr.storeB hs Q0 Q0 Q0 Q5 Q3 Q0 (by exact szf112)) ?_
      clear hs; rintro _ w hs
      refine Qa ?_
      refine WL.next ?_
      refine WC.ret ?_
      refine At.thenret ?_
      refine At.blockret ?_
      refine At.thenret ?_
      refine At.thenret ?_
      refine At.blockret ?_
      refine At.thenret ?_
      refine fin2c rfl agg112 Q0 Q0 hs Q1 Q0 ?_
      replace hs := Sat.nilsl (α := TAttr) hs
      obtain ⟨Fj8, hs⟩ : ∃ F, Sat _ _ _ (ow (⟨0, ([] : Str), ⟨[], none, 0⟩, ([] : Str)⟩ : PToken) F :: _) := ⟨_, PToken.join (⟨0, ([] : Str), ⟨[], none, 0⟩, ([] : Str)⟩ : PToken) (hs.sel (D := [ow (⟨[], none, 0⟩ : (Sl TAttr)) []]) Q2) (by first | exact (show WfI 0 from ⟨by omega, by omega⟩) | trivial | assumption | exact Flat.any (by assumption) | exact ⟨by omega, by omega⟩ | (show WfS _; unfold WfS; omega) | (show WfS _; unfold WfS; simp only [List.length_append, List.length_cons, List.length_nil] at *; omega) | (refine Ph.old ?_ hs; assumption)) (by first | exact (show WfS [] from Nat.zero_le _) | trivial | assumption | exact Flat.any (by assumption) | exact ⟨by omega, by omega⟩ | (show WfS _; unfold WfS; omega) | (show WfS _; unfold WfS; simp only [List.length_append, List.length_cons, List.length_nil] at *; omega) | (refine Ph.old ?_ hs; assumption)) (by first | exact (show WfS [] from Nat.zero_le _) | trivial | assumption | exact Flat.any (by assumption) | exact ⟨by omega, by omega⟩ | (show WfS _; unfold WfS; omega) | (show WfS _; unfold WfS; simp only [List.length_append, List.length_cons, List.length_nil] at *; omega) | (refine Ph.old ?_ hs; assumption))⟩
      try simp only [List.cons_append, List.nil_append] at hs
      refine Ret.mk hs ?_
      refine ⟨(⟨0, ([] : Str), ⟨[], none, 0⟩, ([] : Str)⟩ : PToken), _, rfl, trivial, ?_, ?_⟩
      ·
       repeat' apply And.intro
       all_goals (try dsimp only)
       all_goals first | trivial | assumption | omega | ((try simp only [List.length_append, List.length_cons, List.length_nil, lsz_app, lsz_one, lsz_cons, lsz_nil, TAddr.size, TResponse.size, TRequest.size, TPolicy.size, TEntry.size, TCache.size, strsz, TLine.size, TSent.size, TServer.size, TFile.size, List.map_append, List.map_cons, List.map_nil, PServer.lg, PToken.lg, TToken.size, PNode.lg, TNode.size, TAttr.size, PBuilder.lg, TBuilder.size, TTokenizer.size, List.length_take, List.length_drop, PPolicy.lg, PCache.lg] at *); first | omega | assumption)
      ·
       exact hs.fresh (x := (⟨0, ([] : Str), ⟨[], none, 0⟩, ([] : Str)⟩ : PToken)) (F := Fj8) Q1
     ·
      replace h4 := not_eq_false h4
      replace h4 := of_decide_eq_true h4
      obtain ⟨a1, ha1⟩ := exists_get (l := x7.l) (k := 0) Q7
      obtain ⟨c1, hc1⟩ := exists_get (l := x7.l) (k := 1) Q7
      refine WL.run (d := 50) Q0 Q0 ?_
      refine Qm ?_
      refine WL.run (d := 50) Q0 Q0 ?_
      refine WL.p Q0 (Yl.indexAddr (k := 0) slt48 Q0 Q0 (hs.okow (x := x7) (F := F7) Q1) Q0 (ha1)) ?_
      refine WL.run (d := 50) Q0 Q0 ?_
      refine WL.p Q0 (Yl.loadC0 sca9 Q0 (Sl.Ok.at_ (hs.okow (x := x7) (F := F7) Q1) (by assumption)).2 Q0) ?_
      refine WL.run (d := 50) Q0 Q0 ?_
      refine WL.callp hs Q0 (Yc.func Q0 fn37) (c_spec_IsName _ _ (Sl.Ok.elem (hs.okow (x := x7) (F := F7) Q1) ha1)) ?_
      clear hs; intro w hs
      refine WL.run (d := 50) Q0 Q0 ?_
      refine WL.p Q0 (Yl.not Q0) ?_
      refine WL.p Q0 (Yl.pickF Q0 Q0) ?_
      refine Qm ?_
      refine WL.split (d := 57) Q0 (fun h5 => ?_) (fun h5 => ?_)
      ·
       replace h5 := not_eq_true h5
       refine WL.skip (d := 57) Q0 Q0 Q0 Q0 ?_
       refine WL.skip (d := 57) Q0 Q0 Q0 Q0 ?_
       refine WL.skip (d := 57) Q0 Q0 Q0 Q0 ?_
       refine WL.skip (d := 57) Q0 Q0 Q0 Q0 ?_
       refine WL.skip (d := 57) Q0 Q0 Q0 Q0 ?_
       refine WL.p Q0 (Yl.pickT Q0 Q0) ?_
       refine WL.next ?_
       refine WC.condT Q0 ?_
       refine WC.seq ?_
       refine WL.p Q0 (Yl.build bt112 Q0 Q4) ?_
       refine WL.s (Yr.storeB hs Q0 Q0 Q0 Q5 Q3 Q0 (by exact szf112)) ?_
       clear hs; rintro _ w hs
       refine Qa ?_
       refine WL.next ?_
       refine WC.ret ?_
       refine At.thenret ?_
       refine At.blockret ?_
       refine At.thenret ?_
       refine At.thenret ?_
       refine At.blockret ?_
       refine At.thenret ?_
       refine fin2c rfl agg112 Q0 Q0 hs Q1 Q0 ?_
       replace hs := Sat.nilsl (α := TAttr) hs
       obtain ⟨Fj9, hs⟩ : ∃ F, Sat _ _ _ (ow (⟨0, ([] : Str), ⟨[], none, 0⟩, ([] : Str)⟩ : PToken) F :: _) := ⟨_, PToken.join (⟨0, ([] : Str), ⟨[], none, 0⟩, ([] : Str)⟩ : PToken) (hs.sel (D := [ow (⟨[], none, 0⟩ : (Sl TAttr)) []]) Q2) (by first | exact (show WfI 0 from ⟨by omega, by omega⟩) | trivial | assumption | exact Flat.any (by assumption) | exact ⟨by omega, by omega⟩ | (show WfS _; unfold WfS; omega) | (show WfS _; unfold WfS; simp only [List.length_append, List.length_cons, List.length_nil] at *; omega) | (refine Ph.old ?_ hs; assumption)) (by first | exact (show WfS [] from Nat.zero_le _) | trivial | assumption | exact Flat.any (by assumption) | exact ⟨by omega, by omega⟩ | (show WfS _; unfold WfS; omega) | (show WfS _; unfold WfS; simp only [List.length_append, List.length_cons, List.length_nil] at *; omega) | (refine Ph.old ?_ hs; assumption)) (by first | exact (show WfS [] from Nat.zero_le _) | trivial | assumption | exact Flat.any (by assumption) | exact ⟨by omega, by omega⟩ | (show WfS _; unfold WfS; omega) | (show WfS _; unfold WfS; simp only [List.length_append, List.length_cons, List.length_nil] at *; omega) | (refine Ph.old ?_ hs; assumption))⟩
       try simp only [List.cons_append, List.nil_append] at hs
       refine Ret.mk hs ?_
       refine ⟨(⟨0, ([] : Str), ⟨[], none, 0⟩, ([] : Str)⟩ : PToken), _, rfl, trivial, ?_, ?_⟩
       ·
        repeat' apply And.intro
        all_goals (try dsimp only)
        all_goals first | trivial | assumption | omega | ((try simp only [List.length_append, List.length_cons, List.length_nil, lsz_app, lsz_one, lsz_cons, lsz_nil, TAddr.size, TResponse.size, TRequest.size, TPolicy.size, TEntry.size, TCache.size, strsz, TLine.size, TSent.size, TServer.size, TFile.size, List.map_append, List.map_cons, List.map_nil, PServer.lg, PToken.lg, TToken.size, PNode.lg, TNode.size, TAttr.size, PBuilder.lg, TBuilder.size, TTokenizer.size, List.length_take, List.length_drop, PPolicy.lg, PCache.lg] at *); first | omega | assumption)
       ·
        exact hs.fresh (x := (⟨0, ([] : Str), ⟨[], none, 0⟩, ([] : Str)⟩ : PToken)) (F := Fj9) Q1
      ·
       replace h5 := not_eq_false h5
       refine WL.run (d := 57) Q0 Q0 ?_
       refine Qm ?_
       refine WL.run (d := 57) Q0 Q0 ?_
       refine WL.p Q0 (Yl.indexAddr (k := 1) slt48 Q0 Q0 (hs.okow (x := x7) (F := F7) Q1) Q0 (hc1)) ?_
       refine WL.run (d := 57) Q0 Q0 ?_
       refine WL.p Q0 (Yl.loadC0 sca9 Q0 (Sl.Ok.at_ (hs.okow (x := x7) (F := F7) Q1) (by assumption)).2 Q0) ?_
       refine WL.run (d := 57) Q0 Q0 ?_
       refine WL.callp hs Q0 (Yc.func Q0 fn161) (c_spec_IsValue _ _ (Sl.Ok.elem (hs.okow (x := x7) (F := F7) Q1) hc1)) ?_
       clear hs; intro w hs
       refine WL.run (d := 57) Q0 Q0 ?_
       refine WL.p Q0 (Yl.not Q0) ?_
       refine WL.p Q0 (Yl.pickF Q0 Q0) ?_
       refine WL.next ?_
       refine WC.condS Q0 (fun h6 => ?_) (fun h6 => ?_)
       ·
        replace h6 := not_eq_true h6
        refine WC.seq ?_
        refine WL.p Q0 (Yl.build bt112 Q0 Q4) ?_
        refine WL.s (Yr.storeB hs Q0 Q0 Q0 Q5 Q3 Q0 (by exact szf112)) ?_
        clear hs; rintro _ w hs
        refine Qa ?_
        refine WL.next ?_
        refine WC.ret ?_
        refine At.thenret ?_
        refine At.blockret ?_
        refine At.thenret ?_
        refine At.thenret ?_
        refine At.blockret ?_
        refine At.thenret ?_
        refine fin2c rfl agg112 Q0 Q0 hs Q1 Q0 ?_
        replace hs := Sat.nilsl (α := TAttr) hs
        obtain ⟨Fj10, hs⟩ : ∃ F, Sat _ _ _ (ow (⟨0, ([] : Str), ⟨[], none, 0⟩, ([] : Str)⟩ : PToken) F :: _) := ⟨_, PToken.join (⟨0, ([] : Str), ⟨[], none, 0⟩, ([] : Str)⟩ : PToken) (hs.sel (D := [ow (⟨[], none, 0⟩ : (Sl TAttr)) []]) Q2) (by first | exact (show WfI 0 from ⟨by omega, by omega⟩) | trivial | assumption | exact Flat.any (by assumption) | exact ⟨by omega, by omega⟩ | (show WfS _; unfold WfS; omega) | (show WfS _; unfold WfS; simp only [List.length_append, List.length_cons, List.length_nil] at *; omega) | (refine Ph.old ?_ hs; assumption)) (by first | exact (show WfS [] from Nat.zero_le _) | trivial | assumption | exact Flat.any (by assumption) | exact ⟨by omega, by omega⟩ | (show WfS _; unfold WfS; omega) | (show WfS _; unfold WfS; simp only [List.length_append, List.length_cons, List.length_nil] at *; omega) | (refine Ph.old ?_ hs; assumption)) (by first | exact (show WfS [] from Nat.zero_le _) | trivial | assumption | exact Flat.any (by assumption) | exact ⟨by omega, by omega⟩ | (show WfS _; unfold WfS; omega) | (show WfS _; unfold WfS; simp only [List.length_append, List.length_cons, List.length_nil] at *; omega) | (refine Ph.old ?_ hs; assumption))⟩
        try simp only [List.cons_append, List.nil_append] at hs
        refine Ret.mk hs ?_
        refine ⟨(⟨0, ([] : Str), ⟨[], none, 0⟩, ([] : Str)⟩ : PToken), _, rfl, trivial, ?_, ?_⟩
        ·
         repeat' apply And.intro
         all_goals (try dsimp only)
         all_goals first | trivial | assumption | omega | ((try simp only [List.length_append, List.length_cons, List.length_nil, lsz_app, lsz_one, lsz_cons, lsz_nil, TAddr.size, TResponse.size, TRequest.size, TPolicy.size, TEntry.size, TCache.size, strsz, TLine.size, TSent.size, TServer.size, TFile.size, List.map_append, List.map_cons, List.map_nil, PServer.lg, PToken.lg, TToken.size, PNode.lg, TNode.size, TAttr.size, PBuilder.lg, TBuilder.size, TTokenizer.size, List.length_take, List.length_drop, PPolicy.lg, PCache.lg] at *); first | omega | assumption)
        ·
         exact hs.fresh (x := (⟨0, ([] : Str), ⟨[], none, 0⟩, ([] : Str)⟩ : PToken)) (F := Fj10) Q1
       ·
        replace h6 := not_eq_false h6
        refine WC.skipn ?_
        refine WC.seq' ?_
        refine WC.quietn mixed Q6 hs ?_
        refine WQ.p Q0 (fun w hs => Yl.fieldAddr fa112_2 Q0) ?_
        refine WQ.p Q0 (fun w hs => Yl.loadB sca82 Q0 hs Q1 Q0) ?_
        refine WQ.p Q0 (fun w hs => Yl.move Q0) ?_
        refine WQ.p Q0 (fun w hs => Yl.indexAddr (k := 0) slt48 Q0 Q0 (hs.okow (x := x7) (F := F7) Q1) Q0 (ha1)) ?_
        refine WQ.p Q0 (fun w hs => Yl.loadC0 sca9 Q0 (Sl.Ok.at_ (hs.okow (x := x7) (F := F7) Q1) (by assumption)).2 Q0) ?_
        refine WQ.callp Q0 (fun w => Yc.func Q0 fn162) (fun w hs => (c_spec_FindAttr _ _ _ (hs.okow (x := q) (F := F) Q1))) (fun _ _ hs hb => hs.ext hb) ?_
        refine WQ.p Q0 (fun w hs => Yl.move Q0) ?_
        refine WQ.p Q0 (fun w hs => Yl.extract Q0 Q0) ?_
        refine WQ.p Q0 (fun w hs => Yl.extract Q0 Q0) ?_
        refine WQ.p Q0 (fun w hs => Yl.assign Q0) ?_
        refine WQ.p Q0 (fun w hs => Yl.assign Q0) ?_
        refine WQ.next ?_
        clear hs; intro w hs
        refine WC.seq ?_
        refine Qm ?_
        refine WL.next ?_
        refine WC.condS Q0 (fun h7 => ?_) (fun h7 => ?_)
        ·
         refine WC.seq ?_
         refine WL.p Q0 (Yl.build bt112 Q0 Q4) ?_
         refine WL.s (Yr.storeB hs Q0 Q0 Q0 Q5 Q3 Q0 (by exact szf112)) ?_
         clear hs; rintro _ w hs
         refine Qa ?_
         refine WL.next ?_
         refine WC.ret ?_
         refine At.thenret ?_
         refine At.blockret ?_
         refine At.thenret ?_
         refine At.thenret ?_
         refine At.blockret ?_
         refine At.thenret ?_
         refine fin2c rfl agg112 Q0 Q0 hs Q1 Q0 ?_
         replace hs := Sat.nilsl (α := TAttr) hs
         obtain ⟨Fj11, hs⟩ : ∃ F, Sat _ _ _ (ow (⟨0, ([] : Str), ⟨[], none, 0⟩, ([] : Str)⟩ : PToken) F :: _) := ⟨_, PToken.join (⟨0, ([] : Str), ⟨[], none, 0⟩, ([] : Str)⟩ : PToken) (hs.sel (D := [ow (⟨[], none, 0⟩ : (Sl TAttr)) []]) Q2) (by first | exact (show WfI 0 from ⟨by omega, by omega⟩) | trivial | assumption | exact Flat.any (by assumption) | exact ⟨by omega, by omega⟩ | (show WfS _; unfold WfS; omega) | (show WfS _; unfold WfS; simp only [List.length_append, List.length_cons, List.length_nil] at *; omega) | (refine Ph.old ?_ hs; assumption)) (by first | exact (show WfS [] from Nat.zero_le _) | trivial | assumption | exact Flat.any (by assumption) | exact ⟨by omega, by omega⟩ | (show WfS _; unfold WfS; omega) | (show WfS _; unfold WfS; simp only [List.length_append, List.length_cons, List.length_nil] at *; omega) | (refine Ph.old ?_ hs; assumption)) (by first | exact (show WfS [] from Nat.zero_le _) | trivial | assumption | exact Flat.any (by assumption) | exact ⟨by omega, by omega⟩ | (show WfS _; unfold WfS; omega) | (show WfS _; unfold WfS; simp only [List.length_append, List.length_cons, List.length_nil] at *; omega) | (refine Ph.old ?_ hs; assumption))⟩
         try simp only [List.cons_append, List.nil_append] at hs
         refine Ret.mk hs ?_
         refine ⟨(⟨0, ([] : Str), ⟨[], none, 0⟩, ([] : Str)⟩ : PToken), _, rfl, trivial, ?_, ?_⟩
         ·
          repeat' apply And.intro
          all_goals (try dsimp only)
          all_goals first | trivial | assumption | omega | ((try simp only [List.length_append, List.length_cons, List.length_nil, lsz_app, lsz_one, lsz_cons, lsz_nil, TAddr.size, TResponse.size, TRequest.size, TPolicy.size, TEntry.size, TCache.size, strsz, TLine.size, TSent.size, TServer.size, TFile.size, List.map_append, List.map_cons, List.map_nil, PServer.lg, PToken.lg, TToken.size, PNode.lg, TNode.size, TAttr.size, PBuilder.lg, TBuilder.size, TTokenizer.size, List.length_take, List.length_drop, PPolicy.lg, PCache.lg] at *); first | omega | assumption)
         ·
          exact hs.fresh (x := (⟨0, ([] : Str), ⟨[], none, 0⟩, ([] : Str)⟩ : PToken)) (F := Fj11) Q1
        ·
         refine WC.skipn ?_
         refine WC.anyX (K := [box b6 _ _, ow q F]) mixed hs Q2 ?_
         clear hs; intro w hs
         refine WA.p (i := 0) Q0 Q6 Q6 Q6 Q0 (hs.only Q2) (fun w hs => Yl.fieldAddr fa112_2 Q0) ?_
         refine WA.p (i := 2) Q0 Q6 Q6 Q6 Q0 (hs.only Q2) (fun w hs => Yl.move Q0) ?_
         refine WA.p (i := 3) Q0 Q6 Q6 Q6 Q0 (hs.only Q2) (fun w hs => Yl.indexAddr (k := 0) slt48 Q0 Q0 (hs.okow (x := x7) (F := F7) Q1) Q0 (ha1)) ?_
         refine WA.p (i := 4) Q0 Q6 Q6 Q6 Q0 (hs.only Q2) (fun w hs => Yl.loadC0 sca9 Q0 (Sl.Ok.at_ (hs.okow (x := x7) (F := F7) Q1) (by assumption)).2 Q0) ?_
         refine WA.p (i := 5) Q0 Q6 Q6 Q6 Q0 (hs.only Q2) (fun w hs => Yl.move Q0) ?_
         refine WA.p (i := 6) Q0 Q6 Q6 Q6 Q0 (hs.only Q2) (fun w hs => Yl.indexAddr (k := 1) slt48 Q0 Q0 (hs.okow (x := x7) (F := F7) Q1) Q0 (hc1)) ?_
         refine WA.p (i := 7) Q0 Q6 Q6 Q6 Q0 (hs.only Q2) (fun w hs => Yl.loadC0 sca9 Q0 (Sl.Ok.at_ (hs.okow (x := x7) (F := F7) Q1) (by assumption)).2 Q0) ?_
         refine WA.p (i := 8) Q0 Q6 Q6 Q6 Q0 (hs.only Q2) (fun w hs => Yl.build bt121 Q0 Q4) ?_
         refine WA.dag' [(⟨1, 77, [], (fun _ v cs => v = Sl.v q ∧ cs = [])⟩, []), (⟨9, 85, [], (fun _ v cs => ∃ b, v = .slice (some ⟨b, 0, none⟩) 1 1 ∧ cs = [box b 121 ((Ph.enc ((⟨a1, c1⟩ : TAttr))))])⟩, [])] [false, false] [(0, _), (2, _), (4, _), (5, _), (6, _), (7, _), (9, _), (12, _), (21, _), (36, _), (37, _), (38, _), (39, _), (42, _), (43, _), (44, _), (45, _), (46, _), (47, _), (48, _), (49, _), (50, _), (51, _), (52, _), (53, _), (54, _), (55, _), (56, _), (57, _), (58, _), (59, _), (60, _), (61, _), (62, _), (63, _), (65, _), (66, _), (67, _), (68, _), (69, _), (70, _), (71, _), (72, _), (73, _), (74, _), (76, _), (78, _), (79, _), (80, _), (81, _), (82, _), (83, _), (84, _)] ⟨by rfl, by rfl, by rfl, by rfl, by rfl, by rfl, by rfl, by rfl, by rfl, by rfl, by rfl, by rfl, by rfl, by rfl, by rfl, by rfl, by rfl, by rfl, by rfl, by rfl, by rfl, by rfl, by rfl, by rfl, by rfl, by rfl, by rfl, by rfl, by rfl, by rfl, by rfl, by rfl, by rfl, by rfl, by rfl, by rfl, by rfl, by rfl, by rfl, by rfl, by rfl, by rfl, by rfl, by rfl, by rfl, by rfl, by rfl, by rfl, by rfl, by rfl, by rfl, by rfl, by rfl, trivial⟩ Q0 Q6 Q6 Q6 Q6 Q6 Q6 Q6 Q6 (fun _ hs => hs.only Q2) hs (fuel := 3) ⟨⟨local_const, ?_⟩, ⟨local_const, ?_⟩, trivial⟩ ?_
         ·
          clear hs
          intro w R hs
          simp only [List.cons_append, List.nil_append] at hs
          exact Gives.p' Q0 (Yl.loadB sca82 Q0 hs Q1 Q0) ⟨[], ⟨rfl, rfl⟩, hs⟩
         ·
          clear hs
          intro w R hs
          simp only [List.cons_append, List.nil_append] at hs
          exact Gives.rr' Q0 (Yr.buildSlice hs sll82 Q0 Q0 Q0 Q4 Q0) (fun _ _ ⟨b, hv, _, hs1⟩ => ⟨[box b 121 ((Ph.enc ((⟨a1, c1⟩ : TAttr))))], ⟨b, hv, rfl⟩, hs1⟩)
         clear hs
         rintro _ _ ⟨rfl, rfl⟩
         rintro _ _ ⟨b13, rfl, rfl⟩
         intro w hs
         simp only [List.cons_append, List.nil_append, cond_true, cond_false] at hs
         refine WA.r (i := 10) Q6 Q0 Q0 (Yr.append (s := q) (F := F) hs elt82 Q2 Q0 Q0 rfl (xs := [(⟨a1, c1⟩ : TAttr)]) (hs.box_cells Q1) (by intro x hx; obtain rfl := List.mem_singleton.1 hx; exact ⟨(by first | exact (Sl.Ok.elem (hs.okow (x := x7) (F := F7) Q1) ha1) | trivial | assumption | exact Flat.any (by assumption) | exact ⟨by omega, by omega⟩ | (show WfS _; unfold WfS; omega) | (show WfS _; unfold WfS; simp only [List.length_append, List.length_cons, List.length_nil] at *; omega) | (refine Ph.old ?_ hs; assumption)), (by first | exact (Sl.Ok.elem (hs.okow (x := x7) (F := F7) Q1) hc1) | trivial | assumption | exact Flat.any (by assumption) | exact ⟨by omega, by omega⟩ | (show WfS _; unfold WfS; omega) | (show WfS _; unfold WfS; simp only [List.length_append, List.length_cons, List.length_nil] at *; omega) | (refine Ph.old ?_ hs; assumption))⟩) (by first | (unfold maxLen; omega) | omega | ((try simp only [lsz, strsz, List.length_map, PCache.lg, TCache.size, PPolicy.lg, TPolicy.size, List.length_cons, List.length_nil] at *); first | (unfold maxLen; omega) | omega)) (by first | (unfold maxLen; omega) | omega | ((try simp only [lsz, strsz, List.length_map, PCache.lg, TCache.size, PPolicy.lg, TPolicy.size, List.length_cons, List.length_nil] at *); first | (unfold maxLen; omega) | omega))) (by rintro _ w ⟨s14, F14, rfl, hl14, hs⟩; exact hs.only Q2) ?_
         clear hs; rintro _ w ⟨s14, F14, rfl, hl14, hs⟩
         refine WA.p (i := 11) Q0 Q6 Q6 Q6 Q0 (hs.only Q2) (fun w hs => Yl.fieldAddr fa112_2 Q0) ?_
         refine WA.s (i := 12) Q6 Q0 (Yr.storeB hs Q0 Q0 Q0 Q5 Q3 Q0 (by exact szf82)) (by rintro _ w hs; exact hs.only Q2) ?_
         clear hs; rintro _ w hs
         refine WA.done Q6 ?_
         refine At.blocknormal ?_
         refine At.then_ ?_
         refine WC.region ?_
         refine Qm ?_
         refine WL.p Q0 (Yl.add Q0 Q0 Q7) ?_
         refine Qa ?_
         refine WL.nil ?_
         refine At.roundC (k + 1, s14, F14) (hs.only Q2) ⟨by rfl, by rfl, by rfl, by rfl, by rfl, by rfl, trivial⟩ ⟨by rfl, trivial⟩ ?_ ?_
         ·
          show x5.l.length - (k + 1) < x5.l.length - k
          omega
         ·
          refine ⟨by omega, by omega, ?_⟩
          rw [hl14]; simp only [lsz_app, lsz_one, TAttr.size]; have := isName_len8 h5; have := isValue_len20 h6; omega
    ·
     replace h3 := of_decide_eq_false h3
     refine WC.exit ?_
     refine At.thenexit ?_
     refine At.thenexit ?_
     refine At.blockexit ?_
     refine At.then_ ?_
     refine WC.seq' ?_
     refine WC.seq ?_
     refine WL.p Q0 (Yl.fieldAddr fa112_1 Q0) ?_
     refine WL.p Q0 (Yl.loadB sca9 Q0 hs Q1 Q0) ?_
     refine WL.callp hs Q0 (Yc.func Q0 fn37) (c_spec_IsName _ _ (Sl.Ok.elem (hs.okow (x := x5) (F := F5) Q1) ha0)) ?_
     clear hs; intro w hs
     refine WL.p Q0 (Yl.not Q0) ?_
     refine Qm ?_
     refine WL.split (d := 92) Q0 (fun h4 => ?_) (fun h4 => ?_)
     ·
      replace h4 := not_eq_true h4
      refine WL.skip (d := 92) Q0 Q0 Q0 Q0 ?_
      refine WL.skip (d := 92) Q0 Q0 Q0 Q0 ?_
      refine WL.skip (d := 92) Q0 Q0 Q0 Q0 ?_
      refine WL.skip (d := 92) Q0 Q0 Q0 Q0 ?_
      refine WL.p Q0 (Yl.pickT Q0 Q0) ?_
      refine WL.next ?_
      refine WC.condT Q0 ?_
      refine WC.seq ?_
      refine WL.p Q0 (Yl.build bt112 Q0 Q4) ?_
      refine WL.s (Yr.storeB hs Q0 Q0 Q0 Q5 Q3 Q0 (by exact szf112)) ?_
      clear hs; rintro _ w hs
      refine Qa ?_
      refine WL.next ?_
      refine WC.ret ?_
      refine At.thenret ?_
      refine fin2c rfl agg112 Q0 Q0 hs Q1 Q0 ?_
      replace hs := Sat.nilsl (α := TAttr) hs
      obtain ⟨Fj15, hs⟩ : ∃ F, Sat _ _ _ (ow (⟨0, ([] : Str), ⟨[], none, 0⟩, ([] : Str)⟩ : PToken) F :: _) := ⟨_, PToken.join (⟨0, ([] : Str), ⟨[], none, 0⟩, ([] : Str)⟩ : PToken) (hs.sel (D := [ow (⟨[], none, 0⟩ : (Sl TAttr)) []]) Q2) (by first | exact (show WfI 0 from ⟨by omega, by omega⟩) | trivial | assumption | exact Flat.any (by assumption) | exact ⟨by omega, by omega⟩ | (show WfS _; unfold WfS; omega) | (show WfS _; unfold WfS; simp only [List.length_append, List.length_cons, List.length_nil] at *; omega) | (refine Ph.old ?_ hs; assumption)) (by first | exact (show WfS [] from Nat.zero_le _) | trivial | assumption | exact Flat.any (by assumption) | exact ⟨by omega, by omega⟩ | (show WfS _; unfold WfS; omega) | (show WfS _; unfold WfS; simp only [List.length_append, List.length_cons, List.length_nil] at *; omega) | (refine Ph.old ?_ hs; assumption)) (by first | exact (show WfS [] from Nat.zero_le _) | trivial | assumption | exact Flat.any (by assumption) | exact ⟨by omega, by omega⟩ | (show WfS _; unfold WfS; omega) | (show WfS _; unfold WfS; simp only [List.length_append, List.length_cons, List.length_nil] at *; omega) | (refine Ph.old ?_ hs; assumption))⟩
      try simp only [List.cons_append, List.nil_append] at hs
      refine Ret.mk hs ?_
      refine ⟨(⟨0, ([] : Str), ⟨[], none, 0⟩, ([] : Str)⟩ : PToken), _, rfl, trivial, ?_, ?_⟩
      ·
       repeat' apply And.intro
       all_goals (try dsimp only)
       all_goals first | trivial | assumption | omega | ((try simp only [List.length_append, List.length_cons, List.length_nil, lsz_app, lsz_one, lsz_cons, lsz_nil, TAddr.size, TResponse.size, TRequest.size, TPolicy.size, TEntry.size, TCache.size, strsz, TLine.size, TSent.size, TServer.size, TFile.size, List.map_append, List.map_cons, List.map_nil, PServer.lg, PToken.lg, TToken.size, PNode.lg, TNode.size, TAttr.size, PBuilder.lg, TBuilder.size, TTokenizer.size, List.length_take, List.length_drop, PPolicy.lg, PCache.lg] at *); first | omega | assumption)
      ·
       exact hs.fresh (x := (⟨0, ([] : Str), ⟨[], none, 0⟩, ([] : Str)⟩ : PToken)) (F := Fj15) Q1
     ·
      replace h4 := not_eq_false h4
      refine WL.run (d := 92) Q0 Q0 ?_
      refine WL.p Q0 (Yl.fieldAddr fa112_2 Q0) ?_
      refine WL.run (d := 92) Q0 Q0 ?_
      refine WL.p Q0 (Yl.loadB sca82 Q0 hs Q1 Q0) ?_
      refine WL.run (d := 92) Q0 Q0 ?_
      refine WL.p Q0 (Yl.len_sl slu82 Q0) ?_
      refine WL.run (d := 92) Q0 Q0 ?_
      refine WL.p Q0 (Yl.gtr Q0 Q0) ?_
      refine WL.p Q0 (Yl.pickF Q0 Q0) ?_
      refine WL.next ?_
      refine WC.condS Q0 (fun h5 => ?_) (fun h5 => ?_)
      ·
       replace h5 := of_decide_eq_true h5
       refine WC.seq ?_
       refine WL.p Q0 (Yl.build bt112 Q0 Q4) ?_
       refine WL.s (Yr.storeB hs Q0 Q0 Q0 Q5 Q3 Q0 (by exact szf112)) ?_
       clear hs; rintro _ w hs
       refine Qa ?_
       refine WL.next ?_
       refine WC.ret ?_
       refine At.thenret ?_
       refine fin2c rfl agg112 Q0 Q0 hs Q1 Q0 ?_
       replace hs := Sat.nilsl (α := TAttr) hs
       obtain ⟨Fj16, hs⟩ : ∃ F, Sat _ _ _ (ow (⟨0, ([] : Str), ⟨[], none, 0⟩, ([] : Str)⟩ : PToken) F :: _) := ⟨_, PToken.join (⟨0, ([] : Str), ⟨[], none, 0⟩, ([] : Str)⟩ : PToken) (hs.sel (D := [ow (⟨[], none, 0⟩ : (Sl TAttr)) []]) Q2) (by first | exact (show WfI 0 from ⟨by omega, by omega⟩) | trivial | assumption | exact Flat.any (by assumption) | exact ⟨by omega, by omega⟩ | (show WfS _; unfold WfS; omega) | (show WfS _; unfold WfS; simp only [List.length_append, List.length_cons, List.length_nil] at *; omega) | (refine Ph.old ?_ hs; assumption)) (by first | exact (show WfS [] from Nat.zero_le _) | trivial | assumption | exact Flat.any (by assumption) | exact ⟨by omega, by omega⟩ | (show WfS _; unfold WfS; omega) | (show WfS _; unfold WfS; simp only [List.length_append, List.length_cons, List.length_nil] at *; omega) | (refine Ph.old ?_ hs; assumption)) (by first | exact (show WfS [] from Nat.zero_le _) | trivial | assumption | exact Flat.any (by assumption) | exact ⟨by omega, by omega⟩ | (show WfS _; unfold WfS; omega) | (show WfS _; unfold WfS; simp only [List.length_append, List.length_cons, List.length_nil] at *; omega) | (refine Ph.old ?_ hs; assumption))⟩
       try simp only [List.cons_append, List.nil_append] at hs
       refine Ret.mk hs ?_
       refine ⟨(⟨0, ([] : Str), ⟨[], none, 0⟩, ([] : Str)⟩ : PToken), _, rfl, trivial, ?_, ?_⟩
       ·
        repeat' apply And.intro
        all_goals (try dsimp only)
        all_goals first | trivial | assumption | omega | ((try simp only [List.length_append, List.length_cons, List.length_nil, lsz_app, lsz_one, lsz_cons, lsz_nil, TAddr.size, TResponse.size, TRequest.size, TPolicy.size, TEntry.size, TCache.size, strsz, TLine.size, TSent.size, TServer.size, TFile.size, List.map_append, List.map_cons, List.map_nil, PServer.lg, PToken.lg, TToken.size, PNode.lg, TNode.size, TAttr.size, PBuilder.lg, TBuilder.size, TTokenizer.size, List.length_take, List.length_drop, PPolicy.lg, PCache.lg] at *); first | omega | assumption)
       ·
        exact hs.fresh (x := (⟨0, ([] : Str), ⟨[], none, 0⟩, ([] : Str)⟩ : PToken)) (F := Fj16) Q1
      ·
       replace h5 := of_decide_eq_false h5
       refine WC.skipn ?_
       refine WC.seq ?_
       refine WL.p Q0 (Yl.loadAB agg112 Q0 hs Q1 Q0 Q0) ?_
       refine WL.s (Yr.storeB hs Q0 Q0 Q0 Q5 Q3 Q0 (by exact szf112)) ?_
       clear hs; rintro _ w hs
       refine Qa ?_
       refine WL.next ?_
       refine WC.ret ?_
       refine fin2c rfl agg112 Q0 Q0 hs Q1 Q0 ?_
       obtain ⟨Fj17, hs⟩ : ∃ F, Sat _ _ _ (ow (⟨1, a0, q, ([] : Str)⟩ : PToken) F :: _) := ⟨_, PToken.join (⟨1, a0, q, ([] : Str)⟩ : PToken) (hs.sel (D := [ow q F]) Q2) (by first | exact (show WfI 1 from ⟨by omega, by omega⟩) | trivial | assumption | exact Flat.any (by assumption) | exact ⟨by omega, by omega⟩ | (show WfS _; unfold WfS; omega) | (show WfS _; unfold WfS; simp only [List.length_append, List.length_cons, List.length_nil] at *; omega) | (refine Ph.old ?_ hs; assumption)) (by first | exact (Sl.Ok.elem (hs.okow (x := x5) (F := F5) Q1) ha0) | trivial | assumption | exact Flat.any (by assumption) | exact ⟨by omega, by omega⟩ | (show WfS _; unfold WfS; omega) | (show WfS _; unfold WfS; simp only [List.length_append, List.length_cons, List.length_nil] at *; omega) | (refine Ph.old ?_ hs; assumption)) (by first | exact (show WfS [] from Nat.zero_le _) | trivial | assumption | exact Flat.any (by assumption) | exact ⟨by omega, by omega⟩ | (show WfS _; unfold WfS; omega) | (show WfS _; unfold WfS; simp only [List.length_append, List.length_cons, List.length_nil] at *; omega) | (refine Ph.old ?_ hs; assumption))⟩
       try simp only [List.cons_append, List.nil_append] at hs
       refine Ret.mk hs ?_
       refine ⟨(⟨1, a0, q, ([] : Str)⟩ : PToken), _, rfl, trivial, ?_, ?_⟩
       ·
        repeat' apply And.intro
        all_goals (try dsimp only)
        all_goals first | trivial | assumption | omega | ((try simp only [List.length_append, List.length_cons, List.length_nil, lsz_app, lsz_one, lsz_cons, lsz_nil, TAddr.size, TResponse.size, TRequest.size, TPolicy.size, TEntry.size, TCache.size, strsz, TLine.size, TSent.size, TServer.size, TFile.size, List.map_append, List.map_cons, List.map_nil, PServer.lg, PToken.lg, TToken.size, PNode.lg, TNode.size, TAttr.size, PBuilder.lg, TBuilder.size, TTokenizer.size, List.length_take, List.length_drop, PPolicy.lg, PCache.lg] at *); first | omega | assumption)
       ·
        exact hs.fresh (x := (⟨1, a0, q, ([] : Str)⟩ : PToken)) (F := Fj17) Q1

set_option maxRecDepth 20000 in
theorem c_spec_FeedText (t : TTokenizer) (s : Str) (w : World) (h_t : Ph.ok w t) (h_s : Ph.ok w s) (hb : t.rest.length + s.length ≤ 1000) : Calls Tryz.prog 129 [.agg #[S t.rest], S s].toArray w (Ret w (fun v w' => ∃ (l : Sl PToken) (y : TTokenizer), v = .tuple #[l.v, .agg (Ph.enc y).toArray] ∧ (Ph.ok w' y) ∧ (lsz TToken.size (l.l.map PToken.lg) ≤ (t.rest.length + s.length) * 1001 ∧ y.rest.length ≤ t.rest.length + s.length) ∧ Fresh w l w')) := by
 refine enterN 66 Tryz.func129 rfl rfl rfl ?_
 have hs := Sat.start w
 refine WC.seq ?_
 refine WL.r Q0 (Yr.box hs Q0 Q0) ?_
 clear hs; rintro _ w ⟨b1, rfl, hb, hs⟩; clear hb
 refine Qa ?_
 refine WL.r Q0 (Yr.alloc hs zt184) ?_
 clear hs; rintro _ w ⟨b2, rfl, hb, hs⟩; clear hb
 refine WL.next ?_
 refine WC.seq ?_
 refine WL.r Q0 (Yr.buildSlice hs sll141 Q0 Q0 Q0 Q4 Q0) ?_
 clear hs; rintro _ w ⟨b3, rfl, hb, hs⟩; clear hb
 refine Qa ?_
 refine WL.next ?_
 refine WC.seq ?_
 refine WL.p Q0 (Yl.fieldAddr fa184_0 Q0) ?_
 refine WL.p Q0 (Yl.loadB sca9 Q0 hs Q1 Q0) ?_
 refine Qm ?_
 refine WL.p Q0 (Yl.cat Q0 Q0 (by simp only [List.length_append, List.length_cons, List.length_nil] at *; omega)) ?_
 refine Qa ?_
 refine WL.next ?_
 refine WC.block ?_
 replace hs := Sat.boxow (l := ([] : List PToken)) (hs.sel (D := [box b3 _ _]) Q2) rfl rfl (by simp) (show ownL _ [] [] from rfl)
 try simp only [List.cons_append, List.nil_append] at hs
 refine WC.loopC (ι := Str × Sl PToken × List Nat) (fun ⟨y, q, F⟩ => y.length) (fun ⟨y, q, F⟩ => [(7, S y), (6, q.v)]) (fun ⟨y, q, F⟩ => [box b2 184 [S []], ow q F]) (fun ⟨y, q, F⟩ => y.length ≤ t.rest.length + s.length ∧ lsz TToken.size (q.l.map PToken.lg) ≤ (t.rest.length + s.length - y.length) * 1001) [(0, _), (1, _), (2, _), (5, _)] (t.rest ++ s, ⟨[], some ⟨b3, 0, none⟩, 0⟩, [b3]) (hs.sel (D := [box b2 184 _, ow (⟨[], some ⟨b3, 0, none⟩, 0⟩ : Sl PToken) [b3]]) Q2) ⟨by rfl, by rfl, by rfl, by rfl, trivial⟩ ⟨by rfl, by rfl, trivial⟩ ?_ ?_
 ·
  exact ⟨by simp, by simp [lsz, lsum]⟩
 clear hs; rintro ⟨y, q, F⟩ w ⟨hJ1, hJ2⟩ hs
 simp only [List.cons_append, List.nil_append] at hs
 have hk1 := idxB_le 60 y; have hk2 := idxB_le 62 y; have hk3 := idxB_or y
 have hql : q.l.length ≤ 1001000 := by simp only [lsz, List.length_map] at hJ2; omega
 refine WC.block ?_
 refine WC.seq ?_
 refine Qm ?_
 refine WL.callp hs Q0 (Yc.func Q0 fn147) (c_spec_l5Index _ 60 _ (show WfS y from by unfold WfS; omega)) ?_
 clear hs; intro w hs
 refine Qa ?_
 refine WL.next ?_
 refine WC.seq' ?_
 refine WC.seq ?_
 refine Qm ?_
 refine WL.p Q0 (Yl.gtr Q0 Q0) ?_
 refine Qm ?_
 refine WL.split (d := 21) Q0 (fun h1 => ?_) (fun h1 => ?_)
 ·
  replace h1 := of_decide_eq_true h1
  refine WL.run (d := 21) Q0 Q0 ?_
  refine Qm ?_
  refine WL.run (d := 21) Q0 Q0 ?_
  refine Qm ?_
  refine WL.run (d := 21) Q0 Q0 ?_
  refine WL.p Q0 (Yl.len_str str9 Q0) ?_
  refine WL.run (d := 21) Q0 Q0 ?_
  refine WL.p Q0 (Yl.lss Q0 Q0) ?_
  refine WL.p Q0 (Yl.pickT Q0 Q0) ?_
  refine WL.next ?_
  refine WC.condS Q0 (fun h2 => ?_) (fun h2 => ?_)
  ·
   replace h2 := of_decide_eq_true h2
   refine WC.seq ?_
   refine Qm ?_
   refine Qm ?_
   refine Qm ?_
   refine WL.p Q0 (Yl.slice_str (l := 0) str9 Q0 (by exact rfl) (by exact ⟨_, by rfl⟩) Q7 Q7) ?_
   refine WL.p Q0 (Yl.build bt112 Q0 Q4) ?_
   refine WL.r Q0 (Yr.buildSlice hs sll141 Q0 Q0 Q0 Q4 Q0) ?_
   clear hs; rintro _ w ⟨b4, rfl, hb, hs⟩; clear hb
   replace hs := Sat.nilsl (α := TAttr) hs
   replace hs := PToken.join (⟨3, ([] : Str), ⟨[], none, 0⟩, ((y.drop 0).take ((idxB 60 y) - 0))⟩ : PToken) (hs.sel (D := [ow (⟨[], none, 0⟩ : (Sl TAttr)) []]) Q2) (by first | exact (show WfI 3 from ⟨by omega, by omega⟩) | (refine Ph.old ?_ hs; assumption) | exact (show WfI (3) from ⟨by omega, by omega⟩)) (by first | exact (show WfS [] from Nat.zero_le _) | (refine Ph.old ?_ hs; assumption) ) (by first | exact (by show WfS _; unfold WfS; simp only [List.length_take, List.length_drop]; omega) | (refine Ph.old ?_ hs; assumption) )
   try simp only [List.cons_append, List.nil_append] at hs
   refine WL.r Q0 (Yr.appendE (s := q) (F := F) (u := (⟨3, ([] : Str), ⟨[], none, 0⟩, ((y.drop 0).take ((idxB 60 y) - 0))⟩ : PToken)) (G := []) hs elt141 Q2 Q0 Q0 (hs.box_cells Q1) (by first | (unfold maxLen; omega) | omega | ((try simp only [lsz, strsz, List.length_map, PCache.lg, TCache.size, PPolicy.lg, TPolicy.size, List.length_cons, List.length_nil] at *); first | (unfold maxLen; omega) | omega)) (by first | (unfold maxLen; omega) | omega | ((try simp only [lsz, strsz, List.length_map, PCache.lg, TCache.size, PPolicy.lg, TPolicy.size, List.length_cons, List.length_nil] at *); first | (unfold maxLen; omega) | omega))) ?_
   clear hs; rintro _ w ⟨s5, F5, rfl, hl5, hs⟩
   refine Qa ?_
   refine WL.next ?_
   refine WC.seq ?_
   refine Qm ?_
   refine Qm ?_
   refine WL.p Q0 (Yl.slice_str (l := (idxB 60 y)) str9 Q0 (by exact ⟨_, by rfl⟩) (by exact rfl) Q7 Q7) ?_
   refine Qa ?_
   refine WL.next ?_
   refine WC.exit ?_
   refine At.thenexit ?_
   refine At.blockexit ?_
   refine At.roundC (((y.drop (idxB 60 y)).take (y.length - (idxB 60 y))), s5, F5) (hs.only Q2) ⟨by rfl, by rfl, by rfl, by rfl, trivial⟩ ⟨by rfl, by rfl, trivial⟩ ?_ ?_
   ·
    (try dsimp only); (try simp only [List.length_take, List.length_drop]); omega
   ·
    (try dsimp only)
    refine ⟨by (try simp only [List.length_take, List.length_drop]); omega, ?_⟩
    (try rw [hl5]); (try simp only [List.length_nil, List.length_take, List.length_drop, List.map_append, List.map_cons, List.map_nil, lsz_app, lsz_one, lsz_cons, lsz_nil, PToken.lg, TToken.size] at *); omega
  ·
   replace h2 := of_decide_eq_false h2
   refine WC.skipn ?_
   refine WC.seq ?_
   refine Qm ?_
   refine WL.callp hs Q0 (Yc.func Q0 fn147) (c_spec_l5Index _ 62 _ (show WfS y from by unfold WfS; omega)) ?_
   clear hs; intro w hs
   refine Qa ?_
   refine WL.next ?_
   refine WC.seq' ?_
   refine WC.seq ?_
   refine Qm ?_
   refine WL.p Q0 (Yl.nei Q0 Q0) ?_
   refine Qm ?_
   refine WL.split (d := 41) Q0 (fun h3 => ?_) (fun h3 => ?_)
   ·
    replace h3 := not_eq_true h3
    replace h3 := of_decide_eq_false h3
    refine WL.skip (d := 41) Q0 Q0 Q0 Q0 ?_
    refine WL.skip (d := 41) Q0 Q0 Q0 Q0 ?_
    refine WL.skip (d := 41) Q0 Q0 Q0 Q0 ?_
    refine WL.skip (d := 41) Q0 Q0 Q0 Q0 ?_
    refine WL.p Q0 (Yl.pickT Q0 Q0) ?_
    refine WL.next ?_
    refine WC.condT Q0 ?_
    refine WC.seq ?_
    refine Qm ?_
    refine Qm ?_
    refine WL.p Q0 (Yl.build bt184 Q0 Q4) ?_
    refine Qa ?_
    refine WL.s (Yr.storeB hs Q0 Q0 Q0 Q5 Q3 Q0 (by exact szf184)) ?_
    clear hs; rintro _ w hs
    refine WL.next ?_
    refine WC.ret ?_
    refine At.thenret ?_
    refine At.blockret ?_
    refine At.thenret ?_
    refine At.blockret ?_
    refine finT (rs := [.tmp 4, .cell 5 184]) (vs := [_, _]) rfl (by decide) hs (RV.tmp Q0 (RV.cell agg184 Q0 Q1 Q0 RV.nil)) ?_
    refine Ret.mk hs ?_
    refine ⟨q, (⟨y⟩ : TTokenizer), rfl, ⟨(by first | exact (show WfS y from by unfold WfS; omega) | trivial | assumption | exact Flat.any (by assumption) | exact ⟨by omega, by omega⟩ | (show WfS _; unfold WfS; omega) | (show WfS _; unfold WfS; simp only [List.length_append, List.length_cons, List.length_nil] at *; omega) | (refine Ph.old ?_ hs; assumption))⟩, ?_, ?_⟩
    ·
     repeat' apply And.intro
     all_goals (try dsimp only)
     all_goals first | trivial | assumption | omega | ((try simp only [List.length_append, List.length_cons, List.length_nil, lsz_app, lsz_one, lsz_cons, lsz_nil, TAddr.size, TResponse.size, TRequest.size, TPolicy.size, TEntry.size, TCache.size, strsz, TLine.size, TSent.size, TServer.size, TFile.size, List.map_append, List.map_cons, List.map_nil, PServer.lg, PToken.lg, TToken.size, PNode.lg, TNode.size, TAttr.size, PBuilder.lg, TBuilder.size, TTokenizer.size, List.length_take, List.length_drop, PPolicy.lg, PCache.lg] at *); first | omega | assumption)
    ·
     exact hs.fresh (x := q) (F := F) Q1
   ·
    replace h3 := not_eq_false h3
    replace h3 := of_decide_eq_true h3
    refine WL.run (d := 41) Q0 Q0 ?_
    refine Qm ?_
    refine WL.run (d := 41) Q0 Q0 ?_
    refine Qm ?_
    refine WL.run (d := 41) Q0 Q0 ?_
    refine WL.p Q0 (Yl.len_str str9 Q0) ?_
    refine WL.run (d := 41) Q0 Q0 ?_
    refine WL.p Q0 (Yl.eqi Q0 Q0) ?_
    refine WL.p Q0 (Yl.pickF Q0 Q0) ?_
    refine WL.next ?_
    refine WC.condS Q0 (fun h4 => ?_) (fun h4 => ?_)
    ·
     replace h4 := of_decide_eq_true h4
     refine WC.seq ?_
     refine Qm ?_
     refine Qm ?_
     refine WL.p Q0 (Yl.build bt184 Q0 Q4) ?_
     refine Qa ?_
     refine WL.s (Yr.storeB hs Q0 Q0 Q0 Q5 Q3 Q0 (by exact szf184)) ?_
     clear hs; rintro _ w hs
     refine WL.next ?_
     refine WC.ret ?_
     refine At.thenret ?_
     refine At.blockret ?_
     refine At.thenret ?_
     refine At.blockret ?_
     refine finT (rs := [.tmp 4, .cell 5 184]) (vs := [_, _]) rfl (by decide) hs (RV.tmp Q0 (RV.cell agg184 Q0 Q1 Q0 RV.nil)) ?_
     refine Ret.mk hs ?_
     refine ⟨q, (⟨y⟩ : TTokenizer), rfl, ⟨(by first | exact (show WfS y from by unfold WfS; omega) | trivial | assumption | exact Flat.any (by assumption) | exact ⟨by omega, by omega⟩ | (show WfS _; unfold WfS; omega) | (show WfS _; unfold WfS; simp only [List.length_append, List.length_cons, List.length_nil] at *; omega) | (refine Ph.old ?_ hs; assumption))⟩, ?_, ?_⟩
     ·
      repeat' apply And.intro
      all_goals (try dsimp only)
      all_goals first | trivial | assumption | omega | ((try simp only [List.length_append, List.length_cons, List.length_nil, lsz_app, lsz_one, lsz_cons, lsz_nil, TAddr.size, TResponse.size, TRequest.size, TPolicy.size, TEntry.size, TCache.size, strsz, TLine.size, TSent.size, TServer.size, TFile.size, List.map_append, List.map_cons, List.map_nil, PServer.lg, PToken.lg, TToken.size, PNode.lg, TNode.size, TAttr.size, PBuilder.lg, TBuilder.size, TTokenizer.size, List.length_take, List.length_drop, PPolicy.lg, PCache.lg] at *); first | omega | assumption)
     ·
      exact hs.fresh (x := q) (F := F) Q1
    ·
     replace h4 := of_decide_eq_false h4
     refine WC.skipn ?_
     refine WC.seq' ?_
     refine WC.seq ?_
     refine Qm ?_
     refine Qm ?_
     refine WL.p Q0 (Yl.slice_str (l := 1) str9 Q0 (by exact ⟨_, by rfl⟩) (by exact ⟨_, by rfl⟩) Q7 Q7) ?_
     refine WL.callx hs Q0 (Yc.func Q0 fn148) (c_spec_TagOf _ _ (by show WfS _; unfold WfS; simp only [List.length_take, List.length_drop]; omega)) ?_
     clear hs; intro v w ho hR hs
     obtain ⟨x6_t, x6_ok, rfl, _, hx6, hf6⟩ := hR
     obtain ⟨F6, hs⟩ := hs.addF ho hf6
     clear ho hf6
     refine Qm ?_
     refine WL.p Q0 (Yl.extract Q0 Q0) ?_
     refine WL.p Q0 (Yl.extract Q0 Q0) ?_
     refine WL.r Q0 (Yr.alloc hs zt112) ?_
     clear hs; rintro _ w ⟨b7, rfl, hb, hs⟩; clear hb
     refine WL.s (Yr.storeB hs Q0 Q0 Q0 Q5 Q3 Q0 (by exact szf112)) ?_
     clear hs; rintro _ w hs
     refine Qa ?_
     refine WL.next ?_
     refine WC.seq ?_
     refine Qm ?_
     refine WL.next ?_
     refine WC.condS Q0 (fun h5 => ?_) (fun h5 => ?_)
     ·
      refine WC.region ?_
      refine Qm ?_
      refine WL.p Q0 (Yl.loadAB agg112 Q0 hs Q1 Q0 Q0) ?_
      refine WL.r Q0 (Yr.buildSlice hs sll141 Q0 Q0 Q0 Q4 Q0) ?_
      clear hs; rintro _ w ⟨b8, rfl, hb, hs⟩; clear hb
      refine WL.r Q0 (Yr.appendE (s := q) (F := F) (u := x6_t) (G := F6) hs elt141 Q2 Q0 Q0 (hs.box_cells Q1) (by first | (unfold maxLen; omega) | omega | ((try simp only [lsz, strsz, List.length_map, PCache.lg, TCache.size, PPolicy.lg, TPolicy.size, List.length_cons, List.length_nil] at *); first | (unfold maxLen; omega) | omega)) (by first | (unfold maxLen; omega) | omega | ((try simp only [lsz, strsz, List.length_map, PCache.lg, TCache.size, PPolicy.lg, TPolicy.size, List.length_cons, List.length_nil] at *); first | (unfold maxLen; omega) | omega))) ?_
      clear hs; rintro _ w ⟨s9, F9, rfl, hl9, hs⟩
      refine Qa ?_
      refine WL.nil ?_
      refine At.then_ ?_
      refine WC.region ?_
      refine Qm ?_
      refine Qm ?_
      refine WL.p Q0 (Yl.add Q0 Q0 Q7) ?_
      refine WL.p Q0 (Yl.slice_str (l := (idxB 62 y + 1)) str9 Q0 (by exact ⟨_, by rfl⟩) (by exact rfl) Q7 Q7) ?_
      refine Qa ?_
      refine WL.nil ?_
      refine At.blocknormal ?_
      refine At.roundC (((y.drop (idxB 62 y + 1)).take (y.length - (idxB 62 y + 1))), s9, F9) (hs.only Q2) ⟨by rfl, by rfl, by rfl, by rfl, trivial⟩ ⟨by rfl, by rfl, trivial⟩ ?_ ?_
      ·
       (try dsimp only); (try simp only [List.length_take, List.length_drop]); omega
      ·
       (try dsimp only)
       refine ⟨by (try simp only [List.length_take, List.length_drop]); omega, ?_⟩
       (try rw [hl9]); (try simp only [List.length_nil, List.length_take, List.length_drop, List.map_append, List.map_cons, List.map_nil, lsz_app, lsz_one, lsz_cons, lsz_nil, PToken.lg, TToken.size] at *); omega
     ·
      refine WC.skipn ?_
      refine WC.region ?_
      refine Qm ?_
      refine Qm ?_
      refine WL.p Q0 (Yl.add Q0 Q0 Q7) ?_
      refine WL.p Q0 (Yl.slice_str (l := (idxB 62 y + 1)) str9 Q0 (by exact ⟨_, by rfl⟩) (by exact rfl) Q7 Q7) ?_
      refine Qa ?_
      refine WL.nil ?_
      refine At.blocknormal ?_
      refine At.roundC (((y.drop (idxB 62 y + 1)).take (y.length - (idxB 62 y + 1))), q, F) (hs.only Q2) ⟨by rfl, by rfl, by rfl, by rfl, trivial⟩ ⟨by rfl, by rfl, trivial⟩ ?_ ?_
      ·
       (try dsimp only); (try simp only [List.length_take, List.length_drop]); omega
      ·
       (try dsimp only)
       refine ⟨by (try simp only [List.length_take, List.length_drop]); omega, ?_⟩
       (try rw [hl9]); (try simp only [List.length_nil, List.length_take, List.length_drop, List.map_append, List.map_cons, List.map_nil, lsz_app, lsz_one, lsz_cons, lsz_nil, PToken.lg, TToken.size] at *); omega
 ·
  replace h1 := of_decide_eq_false h1
  refine WL.skip (d := 21) Q0 Q0 Q0 Q0 ?_
  refine WL.skip (d := 21) Q0 Q0 Q0 Q0 ?_
  refine WL.skip (d := 21) Q0 Q0 Q0 Q0 ?_
  refine WL.skip (d := 21) Q0 Q0 Q0 Q0 ?_
  refine WL.p Q0 (Yl.pickF Q0 Q0) ?_
  refine WL.next ?_
  refine WC.condF Q0 ?_
  refine WC.skipn ?_
  refine WC.seq ?_
  refine Qm ?_
  refine WL.callp hs Q0 (Yc.func Q0 fn147) (c_spec_l5Index _ 62 _ (show WfS y from by unfold WfS; omega)) ?_
  clear hs; intro w hs
  refine Qa ?_
  refine WL.next ?_
  refine WC.seq' ?_
  refine WC.seq ?_
  refine Qm ?_
  refine WL.p Q0 (Yl.nei Q0 Q0) ?_
  refine Qm ?_
  refine WL.split (d := 41) Q0 (fun h2 => ?_) (fun h2 => ?_)
  ·
   replace h2 := not_eq_true h2
   replace h2 := of_decide_eq_false h2
   refine WL.skip (d := 41) Q0 Q0 Q0 Q0 ?_
   refine WL.skip (d := 41) Q0 Q0 Q0 Q0 ?_
   refine WL.skip (d := 41) Q0 Q0 Q0 Q0 ?_
   refine WL.skip (d := 41) Q0 Q0 Q0 Q0 ?_
   refine WL.p Q0 (Yl.pickT Q0 Q0) ?_
   refine WL.next ?_
   refine WC.condT Q0 ?_
   refine WC.seq ?_
   refine Qm ?_
   refine Qm ?_
   refine WL.p Q0 (Yl.build bt184 Q0 Q4) ?_
   refine Qa ?_
   refine WL.s (Yr.storeB hs Q0 Q0 Q0 Q5 Q3 Q0 (by exact szf184)) ?_
   clear hs; rintro _ w hs
   refine WL.next ?_
   refine WC.ret ?_
   refine At.thenret ?_
   refine At.blockret ?_
   refine At.thenret ?_
   refine At.blockret ?_
   refine finT (rs := [.tmp 4, .cell 5 184]) (vs := [_, _]) rfl (by decide) hs (RV.tmp Q0 (RV.cell agg184 Q0 Q1 Q0 RV.nil)) ?_
   refine Ret.mk hs ?_
   refine ⟨q, (⟨y⟩ : TTokenizer), rfl, ⟨(by first | exact (show WfS y from by unfold WfS; omega) | trivial | assumption | exact Flat.any (by assumption) | exact ⟨by omega, by omega⟩ | (show WfS _; unfold WfS; omega) | (show WfS _; unfold WfS; simp only [List.length_append, List.length_cons, List.length_nil] at *; omega) | (refine Ph.old ?_ hs; assumption))⟩, ?_, ?_⟩
   ·
    repeat' apply And.intro
    all_goals (try dsimp only)
    all_goals first | trivial | assumption | omega | ((try simp only [List.length_append, List.length_cons, List.length_nil, lsz_app, lsz_one, lsz_cons, lsz_nil, TAddr.size, TResponse.size, TRequest.size, TPolicy.size, TEntry.size, TCache.size, strsz, TLine.size, TSent.size, TServer.size, TFile.size, List.map_append, List.map_cons, List.map_nil, PServer.lg, PToken.lg, TToken.size, PNode.lg, TNode.size, TAttr.size, PBuilder.lg, TBuilder.size, TTokenizer.size, List.length_take, List.length_drop, PPolicy.lg, PCache.lg] at *); first | omega | assumption)
   ·
    exact hs.fresh (x := q) (F := F) Q1
  ·
   replace h2 := not_eq_false h2
   replace h2 := of_decide_eq_true h2
   refine WL.run (d := 41) Q0 Q0 ?_
   refine Qm ?_
   refine WL.run (d := 41) Q0 Q0 ?_
   refine Qm ?_
   refine WL.run (d := 41) Q0 Q0 ?_
   refine WL.p Q0 (Yl.len_str str9 Q0) ?_
   refine WL.run (d := 41) Q0 Q0 ?_
   refine WL.p Q0 (Yl.eqi Q0 Q0) ?_
   refine WL.p Q0 (Yl.pickF Q0 Q0) ?_
   refine WL.next ?_
   refine WC.condS Q0 (fun h3 => ?_) (fun h3 => ?_)
   ·
    replace h3 := of_decide_eq_true h3
    refine WC.seq ?_
    refine Qm ?_
    refine Qm ?_
    refine WL.p Q0 (Yl.build bt184 Q0 Q4) ?_
    refine Qa ?_
    refine WL.s (Yr.storeB hs Q0 Q0 Q0 Q5 Q3 Q0 (by exact szf184)) ?_
    clear hs; rintro _ w hs
    refine WL.next ?_
    refine WC.ret ?_
    refine At.thenret ?_
    refine At.blockret ?_
    refine At.thenret ?_
    refine At.blockret ?_
    refine finT (rs := [.tmp 4, .cell 5 184]) (vs := [_, _]) rfl (by decide) hs (RV.tmp Q0 (RV.cell agg184 Q0 Q1 Q0 RV.nil)) ?_
    refine Ret.mk hs ?_
    refine ⟨q, (⟨y⟩ : TTokenizer), rfl, ⟨(by first | exact (show WfS y from by unfold WfS; omega) | trivial | assumption | exact Flat.any (by assumption) | exact ⟨by omega, by omega⟩ | (show WfS _; unfold WfS; omega) | (show WfS _; unfold WfS; simp only [List.length_append, List.length_cons, List.length_nil] at *; omega) | (refine Ph.old ?_ hs; assumption))⟩, ?_, ?_⟩
    ·
     repeat' apply And.intro
     all_goals (try dsimp only)
     all_goals first | trivial | assumption | omega | ((try simp only [List.length_append, List.length_cons, List.length_nil, lsz_app, lsz_one, lsz_cons, lsz_nil, TAddr.size, TResponse.size, TRequest.size, TPolicy.size, TEntry.size, TCache.size, strsz, TLine.size, TSent.size, TServer.size, TFile.size, List.map_append, List.map_cons, List.map_nil, PServer.lg, PToken.lg, TToken.size, PNode.lg, TNode.size, TAttr.size, PBuilder.lg, TBuilder.size, TTokenizer.size, List.length_take, List.length_drop, PPolicy.lg, PCache.lg] at *); first | omega | assumption)
    ·
     exact hs.fresh (x := q) (F := F) Q1
   ·
    replace h3 := of_decide_eq_false h3
    refine WC.skipn ?_
    refine WC.seq' ?_
    refine WC.seq ?_
    refine Qm ?_
    refine Qm ?_
    refine WL.p Q0 (Yl.slice_str (l := 1) str9 Q0 (by exact ⟨_, by rfl⟩) (by exact ⟨_, by rfl⟩) Q7 Q7) ?_
    refine WL.callx hs Q0 (Yc.func Q0 fn148) (c_spec_TagOf _ _ (by show WfS _; unfold WfS; simp only [List.length_take, List.length_drop]; omega)) ?_
    clear hs; intro v w ho hR hs
    obtain ⟨x10_t, x10_ok, rfl, _, hx10, hf10⟩ := hR
    obtain ⟨F10, hs⟩ := hs.addF ho hf10
    clear ho hf10
    refine Qm ?_
    refine WL.p Q0 (Yl.extract Q0 Q0) ?_
    refine WL.p Q0 (Yl.extract Q0 Q0) ?_
    refine WL.r Q0 (Yr.alloc hs zt112) ?_
    clear hs; rintro _ w ⟨b11, rfl, hb, hs⟩; clear hb
    refine WL.s (Yr.storeB hs Q0 Q0 Q0 Q5 Q3 Q0 (by exact szf112)) ?_
    clear hs; rintro _ w hs
    refine Qa ?_
    refine WL.next ?_
    refine WC.seq ?_
    refine Qm ?_
    refine WL.next ?_
    refine WC.condS Q0 (fun h4 => ?_) (fun h4 => ?_)
    ·
     refine WC.region ?_
     refine Qm ?_
     refine WL.p Q0 (Yl.loadAB agg112 Q0 hs Q1 Q0 Q0) ?_
     refine WL.r Q0 (Yr.buildSlice hs sll141 Q0 Q0 Q0 Q4 Q0) ?_
     clear hs; rintro _ w ⟨b12, rfl, hb, hs⟩; clear hb
     refine WL.r Q0 (Yr.appendE (s := q) (F := F) (u := x10_t) (G := F10) hs elt141 Q2 Q0 Q0 (hs.box_cells Q1) (by first | (unfold maxLen; omega) | omega | ((try simp only [lsz, strsz, List.length_map, PCache.lg, TCache.size, PPolicy.lg, TPolicy.size, List.length_cons, List.length_nil] at *); first | (unfold maxLen; omega) | omega)) (by first | (unfold maxLen; omega) | omega | ((try simp only [lsz, strsz, List.length_map, PCache.lg, TCache.size, PPolicy.lg, TPolicy.size, List.length_cons, List.length_nil] at *); first | (unfold maxLen; omega) | omega))) ?_
     clear hs; rintro _ w ⟨s13, F13, rfl, hl13, hs⟩
     refine Qa ?_
     refine WL.nil ?_
     refine At.then_ ?_
     refine WC.region ?_
     refine Qm ?_
     refine Qm ?_
     refine WL.p Q0 (Yl.add Q0 Q0 Q7) ?_
     refine WL.p Q0 (Yl.slice_str (l := (idxB 62 y + 1)) str9 Q0 (by exact ⟨_, by rfl⟩) (by exact rfl) Q7 Q7) ?_
     refine Qa ?_
     refine WL.nil ?_
     refine At.blocknormal ?_
     refine At.roundC (((y.drop (idxB 62 y + 1)).take (y.length - (idxB 62 y + 1))), s13, F13) (hs.only Q2) ⟨by rfl, by rfl, by rfl, by rfl, trivial⟩ ⟨by rfl, by rfl, trivial⟩ ?_ ?_
     ·
      (try dsimp only); (try simp only [List.length_take, List.length_drop]); omega
     ·
      (try dsimp only)
      refine ⟨by (try simp only [List.length_take, List.length_drop]); omega, ?_⟩
      (try rw [hl13]); (try simp only [List.length_nil, List.length_take, List.length_drop, List.map_append, List.map_cons, List.map_nil, lsz_app, lsz_one, lsz_cons, lsz_nil, PToken.lg, TToken.size] at *); omega
    ·
     refine WC.skipn ?_
     refine WC.region ?_
     refine Qm ?_
     refine Qm ?_
     refine WL.p Q0 (Yl.add Q0 Q0 Q7) ?_
     refine WL.p Q0 (Yl.slice_str (l := (idxB 62 y + 1)) str9 Q0 (by exact ⟨_, by rfl⟩) (by exact rfl) Q7 Q7) ?_
     refine Qa ?_
     refine WL.nil ?_
     refine At.blocknormal ?_
     refine At.roundC (((y.drop (idxB 62 y + 1)).take (y.length - (idxB 62 y + 1))), q, F) (hs.only Q2) ⟨by rfl, by rfl, by rfl, by rfl, trivial⟩ ⟨by rfl, by rfl, trivial⟩ ?_ ?_
     ·
      (try dsimp only); (try simp only [List.length_take, List.length_drop]); omega
     ·
      (try dsimp only)
      refine ⟨by (try simp only [List.length_take, List.length_drop]); omega, ?_⟩
      (try rw [hl13]); (try simp only [List.length_nil, List.length_take, List.length_drop, List.map_append, List.map_cons, List.map_nil, lsz_app, lsz_one, lsz_cons, lsz_nil, PToken.lg, TToken.size] at *); omega

theorem c_spec_EndText (t : TTokenizer) (w : World) (h_t : Ph.ok w t)  : Calls Tryz.prog 130 [.agg #[S t.rest]].toArray w (Ret w (fun v w' => ∃ (l : Sl PToken), v = l.v ∧ (True) ∧ (lsz TToken.size (l.l.map PToken.lg) ≤ t.rest.length + 1) ∧ Fresh w l w')) := by
 have hw : t.rest.length ≤ 9223372036854775807 := h_t.rest
 refine enterN 17 Tryz.func130 rfl rfl rfl ?_
 have hs := Sat.start w
 refine WC.seq ?_
 refine WL.r Q0 (Yr.box hs Q0 Q0) ?_
 clear hs; rintro _ w ⟨b1, rfl, hb, hs⟩; clear hb
 refine Qa ?_
 refine WL.next ?_
 refine WC.seq' ?_
 refine WC.seq ?_
 refine WL.p Q0 (Yl.fieldAddr fa184_0 Q0) ?_
 refine WL.p Q0 (Yl.loadB sca9 Q0 hs Q1 Q0) ?_
 refine WL.p Q0 (Yl.eqs Q0 Q0) ?_
 refine Qm ?_
 refine WL.split (d := 6) Q0 (fun h1 => ?_) (fun h1 => ?_)
 ·
  replace h1 := of_decide_eq_true h1
  refine WL.skip (d := 6) Q0 Q0 Q0 Q0 ?_
  refine WL.skip (d := 6) Q0 Q0 Q0 Q0 ?_
  refine WL.skip (d := 6) Q0 Q0 Q0 Q0 ?_
  refine WL.skip (d := 6) Q0 Q0 Q0 Q0 ?_
  refine WL.p Q0 (Yl.pickT Q0 Q0) ?_
  refine WL.next ?_
  refine WC.condT Q0 ?_
  refine WC.seq ?_
  refine WL.r Q0 (Yr.buildSlice hs sll141 Q0 Q0 Q0 Q4 Q0) ?_
  clear hs; rintro _ w ⟨b2, rfl, hb, hs⟩; clear hb
  refine Qa ?_
  refine WL.next ?_
  refine WC.ret ?_
  refine At.thenret ?_
  refine fin1' rfl Q0 ?_
  replace hs := Sat.boxow (l := ([] : List PToken)) (hs.sel (D := [box b2 _ _]) Q2) rfl rfl (by simp [maxLen]) (show ownL _ [] [] from rfl)
  try simp only [List.cons_append, List.nil_append] at hs
  refine Ret.mk hs ?_
  refine ⟨(⟨[], some ⟨b2, 0, none⟩, 0⟩ : Sl PToken), rfl, trivial, ?_, ?_⟩
  ·
   repeat' apply And.intro
   all_goals (try dsimp only)
   all_goals first | trivial | assumption | omega | ((try simp only [List.length_append, List.length_cons, List.length_nil, lsz_app, lsz_one, lsz_cons, lsz_nil, TAddr.size, TResponse.size, TRequest.size, TPolicy.size, TEntry.size, TCache.size, strsz, TLine.size, TSent.size, TServer.size, TFile.size, List.map_append, List.map_cons, List.map_nil, PServer.lg, PToken.lg, TToken.size, PNode.lg, TNode.size, TAttr.size, PBuilder.lg, TBuilder.size, TTokenizer.size, List.length_take, List.length_drop, PPolicy.lg, PCache.lg] at *); first | omega | assumption)
  ·
   exact hs.fresh (x := (⟨[], some ⟨b2, 0, none⟩, 0⟩ : Sl PToken)) (F := [b2]) Q1
 ·
  replace h1 := of_decide_eq_false h1
  have hl9 : 0 < t.rest.length := List.length_pos_iff.2 (by assumption)
  refine WL.run (d := 6) Q0 Q0 ?_
  refine WL.p Q0 (Yl.fieldAddr fa184_0 Q0) ?_
  refine WL.run (d := 6) Q0 Q0 ?_
  refine WL.p Q0 (Yl.loadB sca9 Q0 hs Q1 Q0) ?_
  refine WL.run (d := 6) Q0 Q0 ?_
  refine WL.p Q0 (Yl.index str9 Q0 Q0 Q0 (by first | assumption | exact List.getElem?_eq_getElem Q7)) ?_
  refine WL.run (d := 6) Q0 Q0 ?_
  refine WL.p Q0 (Yl.eqi Q0 Q0) ?_
  refine WL.p Q0 (Yl.pickF Q0 Q0) ?_
  refine WL.next ?_
  refine WC.condS Q0 (fun h2 => ?_) (fun h2 => ?_)
  ·
   replace h2 := of_decide_eq_true h2
   refine WC.seq ?_
   refine WL.r Q0 (Yr.buildSlice hs sll141 Q0 Q0 Q0 Q4 Q0) ?_
   clear hs; rintro _ w ⟨b3, rfl, hb, hs⟩; clear hb
   refine Qa ?_
   refine WL.next ?_
   refine WC.ret ?_
   refine At.thenret ?_
   refine fin1' rfl Q0 ?_
   replace hs := Sat.boxow (l := ([] : List PToken)) (hs.sel (D := [box b3 _ _]) Q2) rfl rfl (by simp [maxLen]) (show ownL _ [] [] from rfl)
   try simp only [List.cons_append, List.nil_append] at hs
   refine Ret.mk hs ?_
   refine ⟨(⟨[], some ⟨b3, 0, none⟩, 0⟩ : Sl PToken), rfl, trivial, ?_, ?_⟩
   ·
    repeat' apply And.intro
    all_goals (try dsimp only)
    all_goals first | trivial | assumption | omega | ((try simp only [List.length_append, List.length_cons, List.length_nil, lsz_app, lsz_one, lsz_cons, lsz_nil, TAddr.size, TResponse.size, TRequest.size, TPolicy.size, TEntry.size, TCache.size, strsz, TLine.size, TSent.size, TServer.size, TFile.size, List.map_append, List.map_cons, List.map_nil, PServer.lg, PToken.lg, TToken.size, PNode.lg, TNode.size, TAttr.size, PBuilder.lg, TBuilder.size, TTokenizer.size, List.length_take, List.length_drop, PPolicy.lg, PCache.lg] at *); first | omega | assumption)
   ·
    exact hs.fresh (x := (⟨[], some ⟨b3, 0, none⟩, 0⟩ : Sl PToken)) (F := [b3]) Q1
  ·
   replace h2 := of_decide_eq_false h2
   refine WC.skipn ?_
   refine WC.seq ?_
   refine WL.p Q0 (Yl.fieldAddr fa184_0 Q0) ?_
   refine WL.p Q0 (Yl.loadB sca9 Q0 hs Q1 Q0) ?_
   refine WL.p Q0 (Yl.build bt112 Q0 Q4) ?_
   refine WL.r Q0 (Yr.buildSlice hs sll141 Q0 Q0 Q0 Q4 Q0) ?_
   clear hs; rintro _ w ⟨b4, rfl, hb, hs⟩; clear hb
   refine Qa ?_
   refine WL.next ?_
   refine WC.ret ?_
   refine fin1' rfl Q0 ?_
   replace hs := Sat.boxow (l := ([(⟨3, ([] : Str), ⟨[], none, 0⟩, t.rest⟩ : PToken)] : List PToken)) (hs.sel (D := [box b4 _ _]) Q2) rfl rfl (by simp [maxLen]) (ownL_one (show Own.own _ (⟨3, ([] : Str), ⟨[], none, 0⟩, t.rest⟩ : PToken) [] from ⟨⟨(by first | exact Nat.zero_le _ | exact ⟨by decide, by decide⟩ | exact (by first | exact (show WfI 3 from ⟨by omega, by omega⟩) | trivial | assumption | exact Flat.any (by assumption) | exact ⟨by omega, by omega⟩ | (show WfS _; unfold WfS; omega) | (show WfS _; unfold WfS; simp only [List.length_append, List.length_cons, List.length_nil] at *; omega) | (refine Ph.old ?_ hs; assumption)) | exact ⟨by omega, by omega⟩), (by first | exact Nat.zero_le _ | exact ⟨by decide, by decide⟩ | exact (by first | exact (show WfS [] from Nat.zero_le _) | trivial | assumption | exact Flat.any (by assumption) | exact ⟨by omega, by omega⟩ | (show WfS _; unfold WfS; omega) | (show WfS _; unfold WfS; simp only [List.length_append, List.length_cons, List.length_nil] at *; omega) | (refine Ph.old ?_ hs; assumption)) | exact ⟨by omega, by omega⟩), (by first | exact Nat.zero_le _ | exact ⟨by decide, by decide⟩ | exact (by first | exact (Ph.old h_t.rest hs) | trivial | assumption | exact Flat.any (by assumption) | exact ⟨by omega, by omega⟩ | (show WfS _; unfold WfS; omega) | (show WfS _; unfold WfS; simp only [List.length_append, List.length_cons, List.length_nil] at *; omega) | (refine Ph.old ?_ hs; assumption)) | exact ⟨by omega, by omega⟩), trivial⟩, [], nilOwn _, rfl⟩))
   try simp only [List.cons_append, List.nil_append] at hs
   refine Ret.mk hs ?_
   refine ⟨(⟨[(⟨3, ([] : Str), ⟨[], none, 0⟩, t.rest⟩ : PToken)], some ⟨b4, 0, none⟩, 1⟩ : Sl PToken), rfl, trivial, ?_, ?_⟩
   ·
    repeat' apply And.intro
    all_goals (try dsimp only)
    all_goals first | trivial | assumption | omega | ((try simp only [List.length_append, List.length_cons, List.length_nil, lsz_app, lsz_one, lsz_cons, lsz_nil, TAddr.size, TResponse.size, TRequest.size, TPolicy.size, TEntry.size, TCache.size, strsz, TLine.size, TSent.size, TServer.size, TFile.size, List.map_append, List.map_cons, List.map_nil, PServer.lg, PToken.lg, TToken.size, PNode.lg, TNode.size, TAttr.size, PBuilder.lg, TBuilder.size, TTokenizer.size, List.length_take, List.length_drop, PPolicy.lg, PCache.lg] at *); first | omega | assumption)
   ·
    exact hs.fresh (x := (⟨[(⟨3, ([] : Str), ⟨[], none, 0⟩, t.rest⟩ : PToken)], some ⟨b4, 0, none⟩, 1⟩ : Sl PToken)) (F := [b4]) Q1

theorem c_spec_TokensOf (s : Str) (w : World) (h_s : Ph.ok w s) (hb : s.length ≤ 900) : Calls Tryz.prog 101 [S s].toArray w (Ret w (fun v w' => ∃ (l : Sl PToken), v = l.v ∧ (True) ∧ (lsz TToken.size (l.l.map PToken.lg) ≤ s.length * 1002 + 1) ∧ Fresh w l w')) := by
 refine enterN 15 Tryz.func101 rfl rfl rfl ?_
 have hs := Sat.start w
 refine WC.seq ?_
 refine Qa ?_
 refine WL.next ?_
 refine WC.seq ?_
 refine WL.p Q0 (Yl.build bt184 Q0 Q4) ?_
 refine Qm ?_
 refine WL.callx hs Q0 (Yc.func Q0 fn129) (c_spec_FeedText (⟨([] : Str)⟩ : TTokenizer) _ _ ⟨(show WfS [] from Nat.zero_le _)⟩ (Ph.old h_s hs) (by simp only [List.length_nil]; omega)) ?_
 clear hs; intro v w ho hR hs
 obtain ⟨x1_l, x1_y, rfl, hokx1_y, hx1, hf1⟩ := hR
 obtain ⟨F1, hs⟩ := hs.addF ho hf1
 clear ho hf1
 refine Qm ?_
 refine WL.p Q0 (Yl.extract Q0 Q0) ?_
 refine WL.p Q0 (Yl.extract Q0 Q0) ?_
 refine WL.r Q0 (Yr.alloc hs zt184) ?_
 clear hs; rintro _ w ⟨b2, rfl, hb, hs⟩; clear hb
 refine Qa ?_
 refine WL.s (Yr.storeB hs Q0 Q0 Q0 Q5 Q3 Q0 (by exact szf184)) ?_
 clear hs; rintro _ w hs
 refine WL.next ?_
 refine WC.seq ?_
 refine Qm ?_
 refine WL.p Q0 (Yl.loadAB agg184 Q0 hs Q1 Q0 Q0) ?_
 refine WL.callx hs Q0 (Yc.func Q0 fn130) (c_spec_EndText _ _ (Flat.any hokx1_y)) ?_
 clear hs; intro v w ho hR hs
 obtain ⟨x3, rfl, _, hx3, hf3⟩ := hR
 obtain ⟨F3, hs⟩ := hs.addF ho hf3
 clear ho hf3
 refine WL.r Q0 (Yr.appendO (s := x1_l) (F := F1) (r := x3) (G := F3) hs elt141 Q2 Q0 Q0 (by first | (unfold maxLen; omega) | omega | ((try simp only [lsz, strsz, List.length_map, PCache.lg, TCache.size, PPolicy.lg, TPolicy.size, List.length_cons, List.length_nil] at *); first | (unfold maxLen; omega) | omega)) (by first | (unfold maxLen; omega) | omega | ((try simp only [lsz, strsz, List.length_map, PCache.lg, TCache.size, PPolicy.lg, TPolicy.size, List.length_cons, List.length_nil] at *); first | (unfold maxLen; omega) | omega))) ?_
 clear hs; rintro _ w ⟨s4, F4, rfl, hl4, hs⟩
 refine Qa ?_
 refine WL.next ?_
 refine WC.ret ?_
 refine fin1' rfl Q0 ?_
 refine Ret.mk hs ?_
 refine ⟨s4, rfl, trivial, ?_, ?_⟩
 ·
  repeat' apply And.intro
  all_goals (try dsimp only)
  all_goals first | trivial | assumption | omega | ((try simp only [List.length_append, List.length_cons, List.length_nil, lsz_app, lsz_one, lsz_cons, lsz_nil, TAddr.size, TResponse.size, TRequest.size, TPolicy.size, TEntry.size, TCache.size, strsz, TLine.size, TSent.size, TServer.size, TFile.size, List.map_append, List.map_cons, List.map_nil, PServer.lg, PToken.lg, TToken.size, PNode.lg, TNode.size, TAttr.size, PBuilder.lg, TBuilder.size, TTokenizer.size, List.length_take, List.length_drop, PPolicy.lg, PCache.lg, hl4] at *); first | omega | assumption)
 ·
  exact hs.fresh (x := s4) (F := F4) Q1

theorem c_spec_l5Tag (c : Nat) (b_ : Sl UInt8) (w : World)   (h_c : CurAt 93 b_ c w) (hb_c : CurB w b_ c) : Calls Tryz.prog 131 [bp c 0].toArray w (RetD 93 b_ c w (fun v w' => ∃ (x : Str), v = S x ∧ (Ph.ok w' x) ∧ (x.length ≤ 40) ∧ True)) := by
 refine enterN 48 Tryz.func131 rfl rfl rfl ?_
 have hs := Sat.startC h_c
 refine WC.seq ?_
 refine Qa ?_
 refine WL.next ?_
 refine WC.seq' ?_
 refine WC.seq ?_
 refine Qm ?_
 refine WL.calld hs (T := 93) (b := b_) (c := c) Q2 Q0 (Yc.func Q0 fn46) (c_spec_l1Below c b_ _ _ (hs.cur Q1) (Apart.now hb_c hs)) ?_
 clear hs; intro v w ho hR hs
 obtain ⟨x1, rfl, hokx1, hx1, hf1⟩ := hR
 clear ho hf1
 replace hx1 : 0 ≤ x1 ∧ x1 < 8 := ⟨hx1.1, hx1.2.2 (by decide)⟩
 refine WL.next ?_
 refine WC.block ?_
 refine WC.seq ?_
 refine WL.p Q0 (Yl.eqi Q0 Q0) ?_
 refine Qa ?_
 refine WL.next ?_
 refine WC.condS Q0 (fun h1 => ?_) (fun h1 => ?_)
 ·
  replace h1 := of_decide_eq_true h1
  refine WC.seq ?_
  refine Qm ?_
  refine WL.r Q0 (Yr.buildSlice hs sll48 Q0 Q0 Q0 Q4 Q0) ?_
  clear hs; rintro _ w ⟨b2, rfl, hb, hs⟩; clear hb
  replace hs := Sat.boxow (l := ([([112] : Str), ([98] : Str), ([115, 99, 114, 105, 112, 116] : Str), ([112, 97, 103, 101] : Str)] : List Str)) (hs.sel (D := [box b2 _ _]) Q2) rfl rfl (by decide) (ownL_mk_flat (lit_str Q0))
  try simp only [List.cons_append, List.nil_append] at hs
  refine WL.calld hs (T := 93) (b := b_) (c := c) Q2 Q0 (Yc.func Q0 fn28) (c_spec_l1Str c b_ (⟨[([112] : Str), ([98] : Str), ([115, 99, 114, 105, 112, 116] : Str), ([112, 97, 103, 101] : Str)], some ⟨b2, 0, none⟩, 4⟩ : Sl Str) _ (Apart.own (s := (⟨[([112] : Str), ([98] : Str), ([115, 99, 114, 105, 112, 116] : Str), ([112, 97, 103, 101] : Str)], some ⟨b2, 0, none⟩, 4⟩ : Sl Str)) (F := [b2]) hs Q2) (by exact Nat.succ_pos _) (hs.cur Q1) (Apart.now hb_c hs)) ?_
  clear hs; intro v w ho hR hs
  obtain ⟨x3, rfl, hokx3, hx3, hf3⟩ := hR
  clear ho hf3
  replace hx3 : x3 ∈ ([([112] : Str), ([98] : Str), ([115, 99, 114, 105, 112, 116] : Str), ([112, 97, 103, 101] : Str)] : List Str) := hx3
  have hn3 := mem_len 6 hx3 Q0
  refine WL.p Q0 (Yl.cat Q0 Q0 (by simp only [List.length_append, List.length_cons, List.length_nil] at *; omega)) ?_
  refine Qa ?_
  refine WL.next ?_
  refine WC.ret ?_
  refine At.blockret ?_
  refine At.thenret ?_
  refine fin1' rfl Q0 ?_
  refine RetD.mk hs Q1 ?_
  refine ⟨_, rfl, (by first | trivial | assumption | exact Flat.any (by assumption) | exact ⟨by omega, by omega⟩ | (show WfS _; unfold WfS; omega) | (show WfS _; unfold WfS; simp only [List.length_append, List.length_cons, List.length_nil] at *; omega) | (refine Ph.old ?_ hs; assumption)), ?_, ?_⟩
  ·
   repeat' apply And.intro
   all_goals (try dsimp only)
   all_goals first | trivial | assumption | omega | ((try simp only [List.length_append, List.length_cons, List.length_nil, lsz_app, lsz_one, lsz_cons, lsz_nil, TAddr.size, TResponse.size, TRequest.size, TPolicy.size, TEntry.size, TCache.size, strsz, TLine.size, TSent.size, TServer.size, TFile.size, List.map_append, List.map_cons, List.map_nil, PServer.lg, PPolicy.lg, PCache.lg] at *); first | omega | assumption)
  ·
   trivial
 ·
  replace h1 := of_decide_eq_false h1
  refine WC.seq ?_
  refine WL.p Q0 (Yl.eqi Q0 Q0) ?_
  refine Qa ?_
  refine WL.next ?_
  refine WC.condS Q0 (fun h2 => ?_) (fun h2 => ?_)
  ·
   replace h2 := of_decide_eq_true h2
   refine WC.seq ?_
   refine Qm ?_
   refine WL.r Q0 (Yr.buildSlice hs sll48 Q0 Q0 Q0 Q4 Q0) ?_
   clear hs; rintro _ w ⟨b4, rfl, hb, hs⟩; clear hb
   replace hs := Sat.boxow (l := ([([97, 112, 112] : Str), ([99, 100, 110, 47, 108, 105, 98] : Str), ([108, 105, 98] : Str), ([101, 118, 105, 108, 47, 97, 112, 112] : Str)] : List Str)) (hs.sel (D := [box b4 _ _]) Q2) rfl rfl (by decide) (ownL_mk_flat (lit_str Q0))
   try simp only [List.cons_append, List.nil_append] at hs
   refine WL.calld hs (T := 93) (b := b_) (c := c) Q2 Q0 (Yc.func Q0 fn28) (c_spec_l1Str c b_ (⟨[([97, 112, 112] : Str), ([99, 100, 110, 47, 108, 105, 98] : Str), ([108, 105, 98] : Str), ([101, 118, 105, 108, 47, 97, 112, 112] : Str)], some ⟨b4, 0, none⟩, 4⟩ : Sl Str) _ (Apart.own (s := (⟨[([97, 112, 112] : Str), ([99, 100, 110, 47, 108, 105, 98] : Str), ([108, 105, 98] : Str), ([101, 118, 105, 108, 47, 97, 112, 112] : Str)], some ⟨b4, 0, none⟩, 4⟩ : Sl Str)) (F := [b4]) hs Q2) (by exact Nat.succ_pos _) (hs.cur Q1) (Apart.now hb_c hs)) ?_
   clear hs; intro v w ho hR hs
   obtain ⟨x5, rfl, hokx5, hx5, hf5⟩ := hR
   clear ho hf5
   replace hx5 : x5 ∈ ([([97, 112, 112] : Str), ([99, 100, 110, 47, 108, 105, 98] : Str), ([108, 105, 98] : Str), ([101, 118, 105, 108, 47, 97, 112, 112] : Str)] : List Str) := hx5
   have hn5 := mem_len 8 hx5 Q0
   refine WL.p Q0 (Yl.cat Q0 Q0 (by simp only [List.length_append, List.length_cons, List.length_nil] at *; omega)) ?_
   refine Qa ?_
   refine WL.next ?_
   refine WC.ret ?_
   refine At.blockret ?_
   refine At.thenret ?_
   refine fin1' rfl Q0 ?_
   refine RetD.mk hs Q1 ?_
   refine ⟨_, rfl, (by first | trivial | assumption | exact Flat.any (by assumption) | exact ⟨by omega, by omega⟩ | (show WfS _; unfold WfS; omega) | (show WfS _; unfold WfS; simp only [List.length_append, List.length_cons, List.length_nil] at *; omega) | (refine Ph.old ?_ hs; assumption)), ?_, ?_⟩
   ·
    repeat' apply And.intro
    all_goals (try dsimp only)
    all_goals first | trivial | assumption | omega | ((try simp only [List.length_append, List.length_cons, List.length_nil, lsz_app, lsz_one, lsz_cons, lsz_nil, TAddr.size, TResponse.size, TRequest.size, TPolicy.size, TEntry.size, TCache.size, strsz, TLine.size, TSent.size, TServer.size, TFile.size, List.map_append, List.map_cons, List.map_nil, PServer.lg, PPolicy.lg, PCache.lg] at *); first | omega | assumption)
   ·
    trivial
  ·
   replace h2 := of_decide_eq_false h2
   refine WC.seq ?_
   refine WL.p Q0 (Yl.eqi Q0 Q0) ?_
   refine Qa ?_
   refine WL.next ?_
   refine WC.condS Q0 (fun h3 => ?_) (fun h3 => ?_)
   ·
    replace h3 := of_decide_eq_true h3
    refine WC.seq ?_
    refine Qm ?_
    refine WL.r Q0 (Yr.buildSlice hs sll48 Q0 Q0 Q0 Q4 Q0) ?_
    clear hs; rintro _ w ⟨b6, rfl, hb, hs⟩; clear hb
    replace hs := Sat.boxow (l := ([([97, 112, 112] : Str), ([117, 116, 105, 108] : Str)] : List Str)) (hs.sel (D := [box b6 _ _]) Q2) rfl rfl (by decide) (ownL_mk_flat (lit_str Q0))
    try simp only [List.cons_append, List.nil_append] at hs
    refine WL.calld hs (T := 93) (b := b_) (c := c) Q2 Q0 (Yc.func Q0 fn28) (c_spec_l1Str c b_ (⟨[([97, 112, 112] : Str), ([117, 116, 105, 108] : Str)], some ⟨b6, 0, none⟩, 2⟩ : Sl Str) _ (Apart.own (s := (⟨[([97, 112, 112] : Str), ([117, 116, 105, 108] : Str)], some ⟨b6, 0, none⟩, 2⟩ : Sl Str)) (F := [b6]) hs Q2) (by exact Nat.succ_pos _) (hs.cur Q1) (Apart.now hb_c hs)) ?_
    clear hs; intro v w ho hR hs
    obtain ⟨x7, rfl, hokx7, hx7, hf7⟩ := hR
    clear ho hf7
    replace hx7 : x7 ∈ ([([97, 112, 112] : Str), ([117, 116, 105, 108] : Str)] : List Str) := hx7
    have hn7 := mem_len 4 hx7 Q0
    refine WL.p Q0 (Yl.cat Q0 Q0 (by simp only [List.length_append, List.length_cons, List.length_nil] at *; omega)) ?_
    refine WL.p Q0 (Yl.cat Q0 Q0 (by simp only [List.length_append, List.length_cons, List.length_nil] at *; omega)) ?_
    refine Qm ?_
    refine WL.r Q0 (Yr.buildSlice hs sll48 Q0 Q0 Q0 Q4 Q0) ?_
    clear hs; rintro _ w ⟨b8, rfl, hb, hs⟩; clear hb
    replace hs := Sat.boxow (l := ([([100, 101, 102, 101, 114] : Str), ([109, 111, 100, 117, 108, 101] : Str)] : List Str)) (hs.sel (D := [box b8 _ _]) Q2) rfl rfl (by decide) (ownL_mk_flat (lit_str Q0))
    try simp only [List.cons_append, List.nil_append] at hs
    refine WL.calld hs (T := 93) (b := b_) (c := c) Q2 Q0 (Yc.func Q0 fn28) (c_spec_l1Str c b_ (⟨[([100, 101, 102, 101, 114] : Str), ([109, 111, 100, 117, 108, 101] : Str)], some ⟨b8, 0, none⟩, 2⟩ : Sl Str) _ (Apart.own (s := (⟨[([100, 101, 102, 101, 114] : Str), ([109, 111, 100, 117, 108, 101] : Str)], some ⟨b8, 0, none⟩, 2⟩ : Sl Str)) (F := [b8]) hs Q2) (by exact Nat.succ_pos _) (hs.cur Q1) (Apart.now hb_c hs)) ?_
    clear hs; intro v w ho hR hs
    obtain ⟨x9, rfl, hokx9, hx9, hf9⟩ := hR
    clear ho hf9
    replace hx9 : x9 ∈ ([([100, 101, 102, 101, 114] : Str), ([109, 111, 100, 117, 108, 101] : Str)] : List Str) := hx9
    have hn9 := mem_len 6 hx9 Q0
    refine WL.p Q0 (Yl.cat Q0 Q0 (by simp only [List.length_append, List.length_cons, List.length_nil] at *; omega)) ?_
    refine Qa ?_
    refine WL.next ?_
    refine WC.ret ?_
    refine At.blockret ?_
    refine At.thenret ?_
    refine fin1' rfl Q0 ?_
    refine RetD.mk hs Q1 ?_
    refine ⟨_, rfl, (by first | trivial | assumption | exact Flat.any (by assumption) | exact ⟨by omega, by omega⟩ | (show WfS _; unfold WfS; omega) | (show WfS _; unfold WfS; simp only [List.length_append, List.length_cons, List.length_nil] at *; omega) | (refine Ph.old ?_ hs; assumption)), ?_, ?_⟩
    ·
     repeat' apply And.intro
     all_goals (try dsimp only)
     all_goals first | trivial | assumption | omega | ((try simp only [List.length_append, List.length_cons, List.length_nil, lsz_app, lsz_one, lsz_cons, lsz_nil, TAddr.size, TResponse.size, TRequest.size, TPolicy.size, TEntry.size, TCache.size, strsz, TLine.size, TSent.size, TServer.size, TFile.size, List.map_append, List.map_cons, List.map_nil, PServer.lg, PPolicy.lg, PCache.lg] at *); first | omega | assumption)
    ·
     trivial
   ·
    replace h3 := of_decide_eq_false h3
    refine WC.seq ?_
    refine WL.p Q0 (Yl.eqi Q0 Q0) ?_
    refine Qa ?_
    refine WL.next ?_
    refine WC.condS Q0 (fun h4 => ?_) (fun h4 => ?_)
    ·
     replace h4 := of_decide_eq_true h4
     refine WC.seq ?_
     refine Qm ?_
     refine WL.r Q0 (Yr.buildSlice hs sll48 Q0 Q0 Q0 Q4 Q0) ?_
     clear hs; rintro _ w ⟨b10, rfl, hb, hs⟩; clear hb
     replace hs := Sat.boxow (l := ([([108, 111, 103, 111] : Str), ([99, 100, 110, 47, 108, 111, 103, 111] : Str)] : List Str)) (hs.sel (D := [box b10 _ _]) Q2) rfl rfl (by decide) (ownL_mk_flat (lit_str Q0))
     try simp only [List.cons_append, List.nil_append] at hs
     refine WL.calld hs (T := 93) (b := b_) (c := c) Q2 Q0 (Yc.func Q0 fn28) (c_spec_l1Str c b_ (⟨[([108, 111, 103, 111] : Str), ([99, 100, 110, 47, 108, 111, 103, 111] : Str)], some ⟨b10, 0, none⟩, 2⟩ : Sl Str) _ (Apart.own (s := (⟨[([108, 111, 103, 111] : Str), ([99, 100, 110, 47, 108, 111, 103, 111] : Str)], some ⟨b10, 0, none⟩, 2⟩ : Sl Str)) (F := [b10]) hs Q2) (by exact Nat.succ_pos _) (hs.cur Q1) (Apart.now hb_c hs)) ?_
     clear hs; intro v w ho hR hs
     obtain ⟨x11, rfl, hokx11, hx11, hf11⟩ := hR
     clear ho hf11
     replace hx11 : x11 ∈ ([([108, 111, 103, 111] : Str), ([99, 100, 110, 47, 108, 111, 103, 111] : Str)] : List Str) := hx11
     have hn11 := mem_len 8 hx11 Q0
     refine WL.p Q0 (Yl.cat Q0 Q0 (by simp only [List.length_append, List.length_cons, List.length_nil] at *; omega)) ?_
     refine Qa ?_
     refine WL.next ?_
     refine WC.ret ?_
     refine At.blockret ?_
     refine At.thenret ?_
     refine fin1' rfl Q0 ?_
     refine RetD.mk hs Q1 ?_
     refine ⟨_, rfl, (by first | trivial | assumption | exact Flat.any (by assumption) | exact ⟨by omega, by omega⟩ | (show WfS _; unfold WfS; omega) | (show WfS _; unfold WfS; simp only [List.length_append, List.length_cons, List.length_nil] at *; omega) | (refine Ph.old ?_ hs; assumption)), ?_, ?_⟩
     ·
      repeat' apply And.intro
      all_goals (try dsimp only)
      all_goals first | trivial | assumption | omega | ((try simp only [List.length_append, List.length_cons, List.length_nil, lsz_app, lsz_one, lsz_cons, lsz_nil, TAddr.size, TResponse.size, TRequest.size, TPolicy.size, TEntry.size, TCache.size, strsz, TLine.size, TSent.size, TServer.size, TFile.size, List.map_append, List.map_cons, List.map_nil, PServer.lg, PPolicy.lg, PCache.lg] at *); first | omega | assumption)
     ·
      trivial
    ·
     replace h4 := of_decide_eq_false h4
     refine WC.seq ?_
     refine WL.p Q0 (Yl.eqi Q0 Q0) ?_
     refine Qa ?_
     refine WL.next ?_
     refine WC.condS Q0 (fun h5 => ?_) (fun h5 => ?_)
     ·
      replace h5 := of_decide_eq_true h5
      refine WC.seq ?_
      refine Qm ?_
      refine WL.r Q0 (Yr.buildSlice hs sll48 Q0 Q0 Q0 Q4 Q0) ?_
      clear hs; rintro _ w ⟨b12, rfl, hb, hs⟩; clear hb
      replace hs := Sat.boxow (l := ([([115, 116, 121, 108, 101] : Str), ([99, 100, 110, 47, 115, 116, 121, 108, 101] : Str)] : List Str)) (hs.sel (D := [box b12 _ _]) Q2) rfl rfl (by decide) (ownL_mk_flat (lit_str Q0))
      try simp only [List.cons_append, List.nil_append] at hs
      refine WL.calld hs (T := 93) (b := b_) (c := c) Q2 Q0 (Yc.func Q0 fn28) (c_spec_l1Str c b_ (⟨[([115, 116, 121, 108, 101] : Str), ([99, 100, 110, 47, 115, 116, 121, 108, 101] : Str)], some ⟨b12, 0, none⟩, 2⟩ : Sl Str) _ (Apart.own (s := (⟨[([115, 116, 121, 108, 101] : Str), ([99, 100, 110, 47, 115, 116, 121, 108, 101] : Str)], some ⟨b12, 0, none⟩, 2⟩ : Sl Str)) (F := [b12]) hs Q2) (by exact Nat.succ_pos _) (hs.cur Q1) (Apart.now hb_c hs)) ?_
      clear hs; intro v w ho hR hs
      obtain ⟨x13, rfl, hokx13, hx13, hf13⟩ := hR
      clear ho hf13
      replace hx13 : x13 ∈ ([([115, 116, 121, 108, 101] : Str), ([99, 100, 110, 47, 115, 116, 121, 108, 101] : Str)] : List Str) := hx13
      have hn13 := mem_len 9 hx13 Q0
      refine WL.p Q0 (Yl.cat Q0 Q0 (by simp only [List.length_append, List.length_cons, List.length_nil] at *; omega)) ?_
      refine Qa ?_
      refine WL.next ?_
      refine WC.ret ?_
      refine At.blockret ?_
      refine At.thenret ?_
      refine fin1' rfl Q0 ?_
      refine RetD.mk hs Q1 ?_
      refine ⟨_, rfl, (by first | trivial | assumption | exact Flat.any (by assumption) | exact ⟨by omega, by omega⟩ | (show WfS _; unfold WfS; omega) | (show WfS _; unfold WfS; simp only [List.length_append, List.length_cons, List.length_nil] at *; omega) | (refine Ph.old ?_ hs; assumption)), ?_, ?_⟩
      ·
       repeat' apply And.intro
       all_goals (try dsimp only)
       all_goals first | trivial | assumption | omega | ((try simp only [List.length_append, List.length_cons, List.length_nil, lsz_app, lsz_one, lsz_cons, lsz_nil, TAddr.size, TResponse.size, TRequest.size, TPolicy.size, TEntry.size, TCache.size, strsz, TLine.size, TSent.size, TServer.size, TFile.size, List.map_append, List.map_cons, List.map_nil, PServer.lg, PPolicy.lg, PCache.lg] at *); first | omega | assumption)
      ·
       trivial
     ·
      replace h5 := of_decide_eq_false h5
      refine WC.seq ?_
      refine WL.p Q0 (Yl.eqi Q0 Q0) ?_
      refine Qa ?_
      refine WL.next ?_
      refine WC.condS Q0 (fun h6 => ?_) (fun h6 => ?_)
      ·
       replace h6 := of_decide_eq_true h6
       refine WC.seq ?_
       refine Qm ?_
       refine WL.r Q0 (Yr.buildSlice hs sll48 Q0 Q0 Q0 Q4 Q0) ?_
       clear hs; rintro _ w ⟨b14, rfl, hb, hs⟩; clear hb
       replace hs := Sat.boxow (l := ([([112, 32, 97, 61, 98] : Str), ([] : Str), ([80] : Str), ([112, 32, 97] : Str), ([112, 32, 97, 61] : Str), ([112, 32, 32, 97, 61, 98] : Str), ([112, 32, 97, 61, 98, 32, 97, 61, 99] : Str), ([112, 32, 97, 61, 98, 32, 98, 61, 99, 32, 99, 61, 100, 32, 100, 61, 101, 32, 101, 61, 102] : Str), ([47] : Str), ([112, 32, 97, 61, 98, 61, 99] : Str)] : List Str)) (hs.sel (D := [box b14 _ _]) Q2) rfl rfl (by decide) (ownL_mk_flat (lit_str Q0))
       try simp only [List.cons_append, List.nil_append] at hs
       refine WL.calld hs (T := 93) (b := b_) (c := c) Q2 Q0 (Yc.func Q0 fn28) (c_spec_l1Str c b_ (⟨[([112, 32, 97, 61, 98] : Str), ([] : Str), ([80] : Str), ([112, 32, 97] : Str), ([112, 32, 97, 61] : Str), ([112, 32, 32, 97, 61, 98] : Str), ([112, 32, 97, 61, 98, 32, 97, 61, 99] : Str), ([112, 32, 97, 61, 98, 32, 98, 61, 99, 32, 99, 61, 100, 32, 100, 61, 101, 32, 101, 61, 102] : Str), ([47] : Str), ([112, 32, 97, 61, 98, 61, 99] : Str)], some ⟨b14, 0, none⟩, 10⟩ : Sl Str) _ (Apart.own (s := (⟨[([112, 32, 97, 61, 98] : Str), ([] : Str), ([80] : Str), ([112, 32, 97] : Str), ([112, 32, 97, 61] : Str), ([112, 32, 32, 97, 61, 98] : Str), ([112, 32, 97, 61, 98, 32, 97, 61, 99] : Str), ([112, 32, 97, 61, 98, 32, 98, 61, 99, 32, 99, 61, 100, 32, 100, 61, 101, 32, 101, 61, 102] : Str), ([47] : Str), ([112, 32, 97, 61, 98, 61, 99] : Str)], some ⟨b14, 0, none⟩, 10⟩ : Sl Str)) (F := [b14]) hs Q2) (by exact Nat.succ_pos _) (hs.cur Q1) (Apart.now hb_c hs)) ?_
       clear hs; intro v w ho hR hs
       obtain ⟨x15, rfl, hokx15, hx15, hf15⟩ := hR
       clear ho hf15
       replace hx15 : x15 ∈ ([([112, 32, 97, 61, 98] : Str), ([] : Str), ([80] : Str), ([112, 32, 97] : Str), ([112, 32, 97, 61] : Str), ([112, 32, 32, 97, 61, 98] : Str), ([112, 32, 97, 61, 98, 32, 97, 61, 99] : Str), ([112, 32, 97, 61, 98, 32, 98, 61, 99, 32, 99, 61, 100, 32, 100, 61, 101, 32, 101, 61, 102] : Str), ([47] : Str), ([112, 32, 97, 61, 98, 61, 99] : Str)] : List Str) := hx15
       have hn15 := mem_len 21 hx15 Q0
       refine Qa ?_
       refine WL.next ?_
       refine WC.ret ?_
       refine At.blockret ?_
       refine At.thenret ?_
       refine fin1' rfl Q0 ?_
       refine RetD.mk hs Q1 ?_
       refine ⟨_, rfl, (by first | exact (Flat.any hokx15) | trivial | assumption | exact Flat.any (by assumption) | exact ⟨by omega, by omega⟩ | (show WfS _; unfold WfS; omega) | (show WfS _; unfold WfS; simp only [List.length_append, List.length_cons, List.length_nil] at *; omega) | (refine Ph.old ?_ hs; assumption)), ?_, ?_⟩
       ·
        repeat' apply And.intro
        all_goals (try dsimp only)
        all_goals first | trivial | assumption | omega | ((try simp only [List.length_append, List.length_cons, List.length_nil, lsz_app, lsz_one, lsz_cons, lsz_nil, TAddr.size, TResponse.size, TRequest.size, TPolicy.size, TEntry.size, TCache.size, strsz, TLine.size, TSent.size, TServer.size, TFile.size, List.map_append, List.map_cons, List.map_nil, PServer.lg, PPolicy.lg, PCache.lg] at *); first | omega | assumption)
       ·
        trivial
      ·
       replace h6 := of_decide_eq_false h6
       refine WC.skip ?_
       refine At.blocknormal ?_
       refine At.then_ ?_
       refine WC.seq ?_
       refine Qm ?_
       refine WL.r Q0 (Yr.buildSlice hs sll48 Q0 Q0 Q0 Q4 Q0) ?_
       clear hs; rintro _ w ⟨b16, rfl, hb, hs⟩; clear hb
       replace hs := Sat.boxow (l := ([([112] : Str), ([98] : Str), ([112, 97, 103, 101] : Str), ([115, 99, 114, 105, 112, 116] : Str)] : List Str)) (hs.sel (D := [box b16 _ _]) Q2) rfl rfl (by decide) (ownL_mk_flat (lit_str Q0))
       try simp only [List.cons_append, List.nil_append] at hs
       refine WL.calld hs (T := 93) (b := b_) (c := c) Q2 Q0 (Yc.func Q0 fn28) (c_spec_l1Str c b_ (⟨[([112] : Str), ([98] : Str), ([112, 97, 103, 101] : Str), ([115, 99, 114, 105, 112, 116] : Str)], some ⟨b16, 0, none⟩, 4⟩ : Sl Str) _ (Apart.own (s := (⟨[([112] : Str), ([98] : Str), ([112, 97, 103, 101] : Str), ([115, 99, 114, 105, 112, 116] : Str)], some ⟨b16, 0, none⟩, 4⟩ : Sl Str)) (F := [b16]) hs Q2) (by exact Nat.succ_pos _) (hs.cur Q1) (Apart.now hb_c hs)) ?_
       clear hs; intro v w ho hR hs
       obtain ⟨x17, rfl, hokx17, hx17, hf17⟩ := hR
       clear ho hf17
       replace hx17 : x17 ∈ ([([112] : Str), ([98] : Str), ([112, 97, 103, 101] : Str), ([115, 99, 114, 105, 112, 116] : Str)] : List Str) := hx17
       have hn17 := mem_len 6 hx17 Q0
       refine Qa ?_
       refine WL.next ?_
       refine WC.ret ?_
       refine fin1' rfl Q0 ?_
       refine RetD.mk hs Q1 ?_
       refine ⟨_, rfl, (by first | exact (Flat.any hokx17) | trivial | assumption | exact Flat.any (by assumption) | exact ⟨by omega, by omega⟩ | (show WfS _; unfold WfS; omega) | (show WfS _; unfold WfS; simp only [List.length_append, List.length_cons, List.length_nil] at *; omega) | (refine Ph.old ?_ hs; assumption)), ?_, ?_⟩
       ·
        repeat' apply And.intro
        all_goals (try dsimp only)
        all_goals first | trivial | assumption | omega | ((try simp only [List.length_append, List.length_cons, List.length_nil, lsz_app, lsz_one, lsz_cons, lsz_nil, TAddr.size, TResponse.size, TRequest.size, TPolicy.size, TEntry.size, TCache.size, strsz, TLine.size, TSent.size, TServer.size, TFile.size, List.map_append, List.map_cons, List.map_nil, PServer.lg, PPolicy.lg, PCache.lg] at *); first | omega | assumption)
       ·
        trivial

theorem c_spec_l5Page (c : Nat) (b_ : Sl UInt8) (most : Int) (w : World)  (hm : 0 ≤ most ∧ most ≤ 10) (h_c : CurAt 93 b_ c w) (hb_c : CurB w b_ c) : Calls Tryz.prog 102 [bp c 0, I most].toArray w (RetD 93 b_ c w (fun v w' => ∃ (x : Str), v = S x ∧ (Ph.ok w' x) ∧ (x.length ≤ 44 * (most.toNat + 1)) ∧ True)) := by
 refine enterN 36 Tryz.func102 rfl rfl rfl ?_
 have hs := Sat.startC h_c
 refine WC.seq ?_
 refine Qa ?_
 refine WL.next ?_
 refine WC.seq ?_
 refine Qa ?_
 refine WL.next ?_
 refine WC.seq' ?_
 refine WC.seq ?_
 refine Qm ?_
 refine Qm ?_
 refine WL.p Q0 (Yl.add Q0 Q0 Q7) ?_
 refine WL.calld hs (T := 93) (b := b_) (c := c) Q2 Q0 (Yc.func Q0 fn46) (c_spec_l1Below c b_ _ _ (hs.cur Q1) (Apart.now hb_c hs)) ?_
 clear hs; intro v w ho hR hs
 obtain ⟨x1, rfl, hokx1, hx1, hf1⟩ := hR
 clear ho hf1
 refine Qa ?_
 refine WL.next ?_
 refine WC.block ?_
 refine WC.loopC (ι := Int × Str) (fun ⟨m, t⟩ => m.toNat) (fun ⟨m, t⟩ => [(5, S t), (6, I m)]) (fun _ => []) (fun ⟨m, t⟩ => 0 ≤ m ∧ m ≤ most ∧ (t.length : Int) ≤ (most - m) * 42) [(0, _), (1, _), (4, _)] (_, []) (hs) ⟨by rfl, by rfl, by rfl, trivial⟩ ⟨by rfl, by rfl, trivial⟩ ?_ ?_
 ·
  refine ⟨by omega, by omega, ?_⟩
  simp only [List.length_nil]; omega
 clear hs; rintro ⟨m, t⟩ w ⟨hJ1, hJ2, hJ3⟩ hs
 simp only [List.nil_append] at hs
 refine WC.seq' ?_
 refine WC.seq ?_
 refine Qm ?_
 refine WL.p Q0 (Yl.gtr Q0 Q0) ?_
 refine WL.next ?_
 refine WC.condS Q0 (fun h1 => ?_) (fun h1 => ?_)
 ·
  replace h1 := of_decide_eq_true h1
  have hwt : t.length ≤ 9223372036854775807 := by omega
  refine WC.skipn ?_
  refine WC.seq' ?_
  refine WC.block ?_
  refine WC.seq ?_
  refine Qm ?_
  refine WL.calld hs (T := 93) (b := b_) (c := c) Q2 Q0 (Yc.func Q0 fn26) (c_spec_l1Once c b_ _ _ (hs.cur Q1) (Apart.now hb_c hs)) ?_
  clear hs; intro v w ho hR hs
  obtain ⟨x2, rfl, _, hx2, hf2⟩ := hR
  clear ho hf2
  refine WL.next ?_
  refine WC.condS Q0 (fun h2 => ?_) (fun h2 => ?_)
  ·
   refine WC.region ?_
   refine Qm ?_
   refine Qm ?_
   refine WL.r Q0 (Yr.buildSlice hs sll48 Q0 Q0 Q0 Q4 Q0) ?_
   clear hs; rintro _ w ⟨b3, rfl, hb, hs⟩; clear hb
   replace hs := Sat.boxow (l := ([([104, 105] : Str), ([97, 32, 98] : Str), ([99, 111, 117, 110, 116] : Str), ([120, 62, 121] : Str), ([] : Str)] : List Str)) (hs.sel (D := [box b3 _ _]) Q2) rfl rfl (by decide) (ownL_mk_flat (lit_str Q0))
   try simp only [List.cons_append, List.nil_append] at hs
   refine WL.calld hs (T := 93) (b := b_) (c := c) Q2 Q0 (Yc.func Q0 fn28) (c_spec_l1Str c b_ (⟨[([104, 105] : Str), ([97, 32, 98] : Str), ([99, 111, 117, 110, 116] : Str), ([120, 62, 121] : Str), ([] : Str)], some ⟨b3, 0, none⟩, 5⟩ : Sl Str) _ (Apart.own (s := (⟨[([104, 105] : Str), ([97, 32, 98] : Str), ([99, 111, 117, 110, 116] : Str), ([120, 62, 121] : Str), ([] : Str)], some ⟨b3, 0, none⟩, 5⟩ : Sl Str)) (F := [b3]) hs Q2) (by exact Nat.succ_pos _) (hs.cur Q1) (Apart.now hb_c hs)) ?_
   clear hs; intro v w ho hR hs
   obtain ⟨x4, rfl, hokx4, hx4, hf4⟩ := hR
   clear ho hf4
   replace hx4 : x4 ∈ ([([104, 105] : Str), ([97, 32, 98] : Str), ([99, 111, 117, 110, 116] : Str), ([120, 62, 121] : Str), ([] : Str)] : List Str) := hx4
   have hn4 := mem_len 5 hx4 Q0
   refine WL.p Q0 (Yl.cat Q0 Q0 (by simp only [List.length_append, List.length_cons, List.length_nil] at *; omega)) ?_
   refine Qa ?_
   refine WL.nil ?_
   refine At.blocknormal ?_
   refine At.then_ ?_
   refine WC.region ?_
   refine Qm ?_
   refine WL.p Q0 (Yl.sub_ Q0 Q0 Q7) ?_
   refine Qa ?_
   refine WL.nil ?_
   refine At.roundC (_, _) (hs.only Q2) ⟨by rfl, by rfl, by rfl, trivial⟩ ⟨by rfl, by rfl, trivial⟩ ?_ ?_
   ·
    show (m - 1).toNat < m.toNat
    omega
   ·
    refine ⟨by omega, by omega, ?_⟩
    simp only [List.length_append, List.length_cons, List.length_nil] at *; omega
  ·
   refine WC.region ?_
   refine Qm ?_
   refine WL.p Q0 (Yl.cat Q0 Q0 (by simp only [List.length_append, List.length_cons, List.length_nil] at *; omega)) ?_
   refine Qm ?_
   refine WL.calld hs (T := 93) (b := b_) (c := c) Q2 Q0 (Yc.func Q0 fn131) (c_spec_l5Tag c b_ _ (hs.cur Q1) (Apart.now hb_c hs)) ?_
   clear hs; intro v w ho hR hs
   obtain ⟨x5, rfl, hokx5, hx5, hf5⟩ := hR
   clear ho hf5
   refine WL.p Q0 (Yl.cat Q0 Q0 (by simp only [List.length_append, List.length_cons, List.length_nil] at *; omega)) ?_
   refine WL.p Q0 (Yl.cat Q0 Q0 (by simp only [List.length_append, List.length_cons, List.length_nil] at *; omega)) ?_
   refine Qa ?_
   refine WL.nil ?_
   refine At.blocknormal ?_
   refine At.then_ ?_
   refine WC.region ?_
   refine Qm ?_
   refine WL.p Q0 (Yl.sub_ Q0 Q0 Q7) ?_
   refine Qa ?_
   refine WL.nil ?_
   refine At.roundC (_, _) (hs.only Q2) ⟨by rfl, by rfl, by rfl, trivial⟩ ⟨by rfl, by rfl, trivial⟩ ?_ ?_
   ·
    show (m - 1).toNat < m.toNat
    omega
   ·
    refine ⟨by omega, by omega, ?_⟩
    simp only [List.length_append, List.length_cons, List.length_nil] at *; omega
 ·
  replace h1 := of_decide_eq_false h1
  refine WC.exit ?_
  refine At.thenexit ?_
  refine At.thenexit ?_
  refine At.blockexit ?_
  refine At.then_ ?_
  refine WC.seq' ?_
  refine WC.seq ?_
  refine Qm ?_
  refine WL.calld hs (T := 93) (b := b_) (c := c) Q2 Q0 (Yc.func Q0 fn26) (c_spec_l1Once c b_ _ _ (hs.cur Q1) (Apart.now hb_c hs)) ?_
  clear hs; intro v w ho hR hs
  obtain ⟨x6, rfl, _, hx6, hf6⟩ := hR
  clear ho hf6
  refine WL.next ?_
  refine WC.condS Q0 (fun h2 => ?_) (fun h2 => ?_)
  ·
   refine WC.region ?_
   refine Qm ?_
   refine Qm ?_
   refine WL.r Q0 (Yr.buildSlice hs sll48 Q0 Q0 Q0 Q4 Q0) ?_
   clear hs; rintro _ w ⟨b7, rfl, hb, hs⟩; clear hb
   replace hs := Sat.boxow (l := ([([60, 112] : Str), ([60] : Str), ([101, 110, 100] : Str)] : List Str)) (hs.sel (D := [box b7 _ _]) Q2) rfl rfl (by decide) (ownL_mk_flat (lit_str Q0))
   try simp only [List.cons_append, List.nil_append] at hs
   refine WL.calld hs (T := 93) (b := b_) (c := c) Q2 Q0 (Yc.func Q0 fn28) (c_spec_l1Str c b_ (⟨[([60, 112] : Str), ([60] : Str), ([101, 110, 100] : Str)], some ⟨b7, 0, none⟩, 3⟩ : Sl Str) _ (Apart.own (s := (⟨[([60, 112] : Str), ([60] : Str), ([101, 110, 100] : Str)], some ⟨b7, 0, none⟩, 3⟩ : Sl Str)) (F := [b7]) hs Q2) (by exact Nat.succ_pos _) (hs.cur Q1) (Apart.now hb_c hs)) ?_
   clear hs; intro v w ho hR hs
   obtain ⟨x8, rfl, hokx8, hx8, hf8⟩ := hR
   clear ho hf8
   replace hx8 : x8 ∈ ([([60, 112] : Str), ([60] : Str), ([101, 110, 100] : Str)] : List Str) := hx8
   have hn8 := mem_len 3 hx8 Q0
   refine WL.p Q0 (Yl.cat Q0 Q0 (by simp only [List.length_append, List.length_cons, List.length_nil] at *; omega)) ?_
   refine Qa ?_
   refine WL.nil ?_
   refine At.then_ ?_
   refine WC.seq ?_
   refine Qm ?_
   refine Qa ?_
   refine WL.next ?_
   refine WC.ret ?_
   refine fin1' rfl Q0 ?_
   refine RetD.mk hs Q1 ?_
   refine ⟨_, rfl, (by first | trivial | assumption | exact Flat.any (by assumption) | exact ⟨by omega, by omega⟩ | (show WfS _; unfold WfS; omega) | (show WfS _; unfold WfS; simp only [List.length_append, List.length_cons, List.length_nil] at *; omega) | (refine Ph.old ?_ hs; assumption)), ?_, ?_⟩
   ·
    repeat' apply And.intro
    all_goals (try dsimp only)
    all_goals first | trivial | assumption | omega | ((try simp only [List.length_append, List.length_cons, List.length_nil, lsz_app, lsz_one, lsz_cons, lsz_nil, TAddr.size, TResponse.size, TRequest.size, TPolicy.size, TEntry.size, TCache.size, strsz, TLine.size, TSent.size, TServer.size, TFile.size, List.map_append, List.map_cons, List.map_nil, PServer.lg, PPolicy.lg, PCache.lg] at *); first | omega | assumption)
   ·
    trivial
  ·
   refine WC.skipn ?_
   refine WC.seq ?_
   refine Qm ?_
   refine Qa ?_
   refine WL.next ?_
   refine WC.ret ?_
   refine fin1' rfl Q0 ?_
   refine RetD.mk hs Q1 ?_
   refine ⟨_, rfl, (by first | exact (show WfS t from by unfold WfS; omega) | trivial | assumption | exact Flat.any (by assumption) | exact ⟨by omega, by omega⟩ | (show WfS _; unfold WfS; omega) | (show WfS _; unfold WfS; simp only [List.length_append, List.length_cons, List.length_nil] at *; omega) | (refine Ph.old ?_ hs; assumption)), ?_, ?_⟩
   ·
    repeat' apply And.intro
    all_goals (try dsimp only)
    all_goals first | trivial | assumption | omega | ((try simp only [List.length_append, List.length_cons, List.length_nil, lsz_app, lsz_one, lsz_cons, lsz_nil, TAddr.size, TResponse.size, TRequest.size, TPolicy.size, TEntry.size, TCache.size, strsz, TLine.size, TSent.size, TServer.size, TFile.size, List.map_append, List.map_cons, List.map_nil, PServer.lg, PPolicy.lg, PCache.lg] at *); first | omega | assumption)
   ·
    trivial

theorem c_spec_l6Builder (c : Nat) (b_ : Sl UInt8) (w : World)   (h_c : CurAt 93 b_ c w) (hb_c : CurB w b_ c) : Calls Tryz.prog 69 [bp c 0].toArray w (RetD 93 b_ c w (fun v w' => ∃ (b : PBuilder), v = .agg (Ph.enc b).toArray ∧ (True) ∧ (b.lg.size ≤ 970000 ∧ 0 < b.opn.l.length) ∧ Fresh w b w')) := by
 refine enterN 8 Tryz.func69 rfl rfl rfl ?_
 have hs := Sat.startC h_c
 refine WC.seq ?_
 refine WL.r Q0 (Yr.alloc hs zt40) ?_
 clear hs; rintro _ w ⟨b1, rfl, hb, hs⟩; clear hb
 refine WL.next ?_
 refine WC.seq ?_
 refine WL.callx hs Q0 (Yc.func Q0 fn100) (c_spec_NewBuilder _) ?_
 clear hs; intro v w ho hR hs
 obtain ⟨x2, rfl, _, hx2, hf2⟩ := hR
 obtain ⟨F2, hs⟩ := hs.addF ho hf2
 clear ho hf2
 refine Qm ?_
 refine WL.calld hs (T := 93) (b := b_) (c := c) Q2 Q0 (Yc.func Q0 fn102) (c_spec_l5Page c b_ _ _ Q7 (hs.cur Q1) (Apart.now hb_c hs)) ?_
 clear hs; intro v w ho hR hs
 obtain ⟨x3, rfl, hokx3, hx3, hf3⟩ := hR
 clear ho hf3
 refine WL.callx hs Q0 (Yc.func Q0 fn101) (c_spec_TokensOf _ _ (Flat.any hokx3) Q7) ?_
 clear hs; intro v w ho hR hs
 obtain ⟨x4, rfl, _, hx4, hf4⟩ := hR
 obtain ⟨F4, hs⟩ := hs.addF ho hf4
 clear ho hf4
 refine WL.callx hs Q0 (Yc.func Q0 fn99) (c_spec_AddTokens _ _ _ (hs.okow (x := x2) (F := F2) Q1) (hs.okow (x := x4) (F := F4) Q1) Q7) ?_
 clear hs; intro v w ho hR hs
 obtain ⟨x5, rfl, _, hx5, hf5⟩ := hR
 obtain ⟨F5, hs⟩ := hs.addF ho hf5
 clear ho hf5
 refine WL.s (Yr.storeB hs Q0 Q0 Q0 Q5 Q3 Q0 (by exact szf40)) ?_
 clear hs; rintro _ w hs
 refine WL.next ?_
 refine WC.ret ?_
 refine fin1c rfl agg40 Q0 hs Q1 Q0 ?_
 refine RetD.mk hs Q1 ?_
 refine ⟨x5, rfl, trivial, ?_, ?_⟩
 ·
  repeat' apply And.intro
  all_goals (try dsimp only)
  all_goals first | trivial | assumption | omega | ((try simp only [List.length_append, List.length_cons, List.length_nil, lsz_app, lsz_one, lsz_cons, lsz_nil, TAddr.size, TResponse.size, TRequest.size, TPolicy.size, TEntry.size, TCache.size, strsz, TLine.size, TSent.size, TServer.size, TFile.size, List.map_append, List.map_cons, List.map_nil, PServer.lg, PToken.lg, TToken.size, PNode.lg, TNode.size, TAttr.size, PBuilder.lg, TBuilder.size, TTokenizer.size, List.length_take, List.length_drop, PPolicy.lg, PCache.lg] at *); first | omega | assumption)
 ·
  exact hs.freshD (x := x5) (F := F5) Q2

theorem c_spec_l1Int (c : Nat) (b_ : Sl UInt8) (list : (Sl Int)) (w : World) (h_list : Apart w list c) (hne : 0 < list.l.length) (h_c : CurAt 93 b_ c w) (hb_c : CurB w b_ c) : Calls Tryz.prog 70 [bp c 0, Sl.v list].toArray w (RetD 93 b_ c w (fun v w' => ∃ (x : Int), v = I x ∧ (Ph.ok w' x) ∧ (x ∈ list.l) ∧ True)) := by
 have hw := h_list.ok.lt
 refine enterN 12 Tryz.func70 rfl rfl rfl ?_
 have hs := Sat.startC h_c
 refine WC.seq ?_
 refine Qa ?_
 refine WL.next ?_
 refine WC.seq ?_
 refine Qm ?_
 refine Qm ?_
 refine Qm ?_
 refine WL.p Q0 (Yl.len_sl slu38 Q0) ?_
 refine WL.calld hs (T := 93) (b := b_) (c := c) Q2 Q0 (Yc.func Q0 fn46) (c_spec_l1Below c b_ _ _ (hs.cur Q1) (Apart.now hb_c hs)) ?_
 clear hs; intro v w ho hR hs
 obtain ⟨x1, rfl, hokx1, hx1, hf1⟩ := hR
 clear ho hf1
 have hb9 := hx1.2.2 Q7
 obtain ⟨d9, hd9⟩ := exists_get (l := list.l) (k := (x1).toNat) Q7
 refine WL.p Q0 (Yl.indexAddr (k := (x1).toNat) slt38 Q0 Q0 (Apart.now h_list hs).ok Q7 (hd9)) ?_
 refine WL.p Q0 (Yl.loadC0 sca3 Q0 (Sl.Ok.at_ (Apart.now h_list hs).ok (hd9)).2 Q0) ?_
 refine Qa ?_
 refine WL.next ?_
 refine WC.ret ?_
 refine fin1' rfl Q0 ?_
 refine RetD.mk hs Q1 ?_
 refine ⟨_, rfl, (by first | exact (Apart.now h_list hs).ok.elem hd9 | trivial | assumption | exact Flat.any (by assumption) | exact ⟨by omega, by omega⟩ | (show WfS _; unfold WfS; omega) | (show WfS _; unfold WfS; simp only [List.length_append, List.length_cons, List.length_nil] at *; omega) | (refine Ph.old ?_ hs; assumption)), ?_, ?_⟩
 ·
  exact List.mem_of_getElem? hd9
 ·
  trivial

end Go.Sw
