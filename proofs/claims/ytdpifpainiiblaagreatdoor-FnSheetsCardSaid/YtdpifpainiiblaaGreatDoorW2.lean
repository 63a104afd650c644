/- Walks: what each function of the program returns, for every input. Printed by gen.py. -/
import Derived.Test.YtdpifpainiiblaaGreatDoorW1
set_option linter.all false
namespace Go.Sw
open Go Go.RowKit Go.Proofs

set_option maxHeartbeats 4000000 in
theorem c_spec_l6Any (c : Nat) (b_ : Sl UInt8) (w : World)   (h_c : CurAt 93 b_ c w) (hb_c : CurB w b_ c) : Calls Tryz.prog 45 [bp c 0].toArray w (RetD 93 b_ c w (fun v w' => ∃ (b : PBuilder), v = .agg (Ph.enc b).toArray ∧ (True) ∧ (b.lg.size ≤ 980000) ∧ Fresh w b w')) := by
 refine enterN 51 Tryz.func45 rfl rfl rfl ?_
 have hs := Sat.startC h_c
 refine WC.seq ?_
 refine WL.r Q0 (Yr.alloc hs zt40) ?_
 clear hs; rintro _ w ⟨b1, rfl, hb, hs⟩; clear hb
 refine WL.next ?_
 refine WC.seq ?_
 refine Qm ?_
 refine WL.calld hs (T := 93) (b := b_) (c := c) Q2 Q0 (Yc.func Q0 fn69) (c_spec_l6Builder c b_ _ (hs.cur Q1) (Apart.now hb_c hs)) ?_
 clear hs; intro v w ho hR hs
 obtain ⟨x2, rfl, _, hx2, hf2⟩ := hR
 obtain ⟨F2, hs⟩ := hs.addF ho hf2
 clear ho hf2
 obtain ⟨hbn2, hbo2, hbs2⟩ := builder_lens hx2.1
 obtain ⟨K3_0, K3_1, hfl3, hs⟩ := PBuilder.split (hs.sel (D := [ow x2 F2]) Q2)
 try simp only [List.cons_append, List.nil_append] at hs
 refine WL.r Q0 (Yr.alloc hs zt40) ?_
 clear hs; rintro _ w ⟨b4, rfl, hb, hs⟩; clear hb
 refine WL.s (Yr.storeB hs Q0 Q0 Q0 Q5 Q3 Q0 (by exact szf40)) ?_
 clear hs; rintro _ w hs
 refine WL.next ?_
 refine WC.seq' ?_
 refine WC.seq ?_
 refine Qm ?_
 refine WL.calld hs (T := 93) (b := b_) (c := c) Q2 Q0 (Yc.func Q0 fn46) (c_spec_l1Below c b_ _ _ (hs.cur Q1) (Apart.now hb_c hs)) ?_
 clear hs; intro v w ho hR hs
 obtain ⟨x5, rfl, hokx5, hx5, hf5⟩ := hR
 clear ho hf5
 replace hx5 : 0 ≤ x5 ∧ x5 < 14 := ⟨hx5.1, hx5.2.2 (by decide)⟩
 refine WL.next ?_
 refine WC.block ?_
 refine WC.seq ?_
 refine WL.p Q0 (Yl.eqi Q0 Q0) ?_
 refine Qa ?_
 refine WL.next ?_
 refine WC.condS Q0 (fun h1 => ?_) (fun h1 => ?_)
 ·
  replace h1 := of_decide_eq_true h1
  refine WC.anyX (K := [box b4 _ _, ow x2.opn K3_1]) mixed hs Q2 ?_
  clear hs; intro w hs
  refine WA.p (i := 0) Q0 Q6 Q6 Q6 Q0 (hs.only Q2) (fun w hs => Yl.fieldAddr fa40_1 Q0) ?_
  refine WA.p (i := 2) Q0 Q6 Q6 Q6 Q0 (hs.only Q2) (fun w hs => Yl.move Q0) ?_
  refine WA.two (i := 1) (j := 3) Q6 ?_ ?_
  ·
   refine WI.r (i := 1) Q0 Q0 (Yl.yr (Yl.loadB sca38 Q0 hs Q1 Q0)) (by rintro _ _ ⟨rfl, rfl⟩; exact hs.only Q2) ?_
   rintro _ _ ⟨rfl, rfl⟩
   refine WA.r (i := 3) Q6 Q0 Q0 (Yr.buildSlice hs sll38 Q0 Q0 Q0 Q4 Q0) (by rintro _ w ⟨b6, rfl, hb, hs⟩; exact hs.only Q2) ?_
   clear hs; rintro _ w ⟨b6, rfl, hb, hs⟩; clear hb
   replace hs := Sat.boxow (l := ([0, 1, 2, 99] : List Int)) (hs.sel (D := [box b6 _ _]) Q2) rfl rfl (by decide) (ownL_mk_flat (lit_int Q0))
   try simp only [List.cons_append, List.nil_append] at hs
   refine WA.calld (i := 4) hs (T := 93) (b := b_) (c := c) Q2 (fun _ hs => hs.only Q2) Q6 Q0 Q0 (Yc.func Q0 fn70) (c_spec_l1Int c b_ (⟨[0, 1, 2, 99], some ⟨b6, 0, none⟩, 4⟩ : Sl Int) _ (Apart.own (s := (⟨[0, 1, 2, 99], some ⟨b6, 0, none⟩, 4⟩ : Sl Int)) (F := [b6]) hs Q2) (by exact Nat.succ_pos _) (hs.cur Q1) (Apart.now hb_c hs)) ?_
   clear hs; intro v w ho hR hs
   obtain ⟨x7, rfl, hokx7, hx7, hf7⟩ := hR
   clear ho hf7
   replace hx7 : x7 ∈ ([0, 1, 2, 99] : List Int) := hx7
   have hn7 := mem_int (0) (99) hx7 Q0
   refine WA.r (i := 5) Q6 Q0 Q0 (Yr.buildSlice hs sll38 Q0 Q0 Q0 Q4 Q0) (by rintro _ w ⟨b8, rfl, hb, hs⟩; exact hs.only Q2) ?_
   clear hs; rintro _ w ⟨b8, rfl, hb, hs⟩; clear hb
   refine WA.r (i := 6) Q6 Q0 Q0 (Yr.append (s := x2.opn) (F := K3_1) hs elt38 Q2 Q0 Q0 rfl (xs := [x7]) (hs.box_cells Q1) (by intro x hx; obtain rfl := List.mem_singleton.1 hx; exact (by first | exact (Flat.any hokx7) | trivial | assumption | exact Flat.any (by assumption) | exact ⟨by omega, by omega⟩ | (show WfS _; unfold WfS; omega) | (show WfS _; unfold WfS; simp only [List.length_append, List.length_cons, List.length_nil] at *; omega) | (refine Ph.old ?_ hs; assumption))) (by first | (unfold maxLen; omega) | omega | ((try simp only [lsz, strsz, List.length_map, PCache.lg, TCache.size, PPolicy.lg, TPolicy.size, List.length_cons, List.length_nil] at *); first | (unfold maxLen; omega) | omega)) (by first | (unfold maxLen; omega) | omega | ((try simp only [lsz, strsz, List.length_map, PCache.lg, TCache.size, PPolicy.lg, TPolicy.size, List.length_cons, List.length_nil] at *); first | (unfold maxLen; omega) | omega))) (by rintro _ w ⟨s9, F9, rfl, hl9, hs⟩; exact hs.only Q2) ?_
   clear hs; rintro _ w ⟨s9, F9, rfl, hl9, hs⟩
   refine WA.p (i := 7) Q0 Q6 Q6 Q6 Q0 (hs.only Q2) (fun w hs => Yl.fieldAddr fa40_1 Q0) ?_
   refine WA.s (i := 8) Q6 Q0 (Yr.storeB hs Q0 Q0 Q0 Q5 Q3 Q0 (by exact szf38)) (by rintro _ w hs; exact hs.only Q2) ?_
   clear hs; rintro _ w hs
   refine WA.done Q6 ?_
   refine At.blocknormal ?_
   refine At.then_ ?_
   refine WC.seq ?_
   refine WL.p Q0 (Yl.loadAB agg40 Q0 hs Q1 Q0 Q0) ?_
   refine WL.s (Yr.storeB hs Q0 Q0 Q0 Q5 Q3 Q0 (by exact szf40)) ?_
   clear hs; rintro _ w hs
   refine WL.next ?_
   refine WC.ret ?_
   refine fin1c rfl agg40 Q0 hs Q1 Q0 ?_
   obtain ⟨Fj10, hs⟩ : ∃ F, Sat _ _ _ (ow (⟨x2.nodes, s9⟩ : PBuilder) F :: _) := ⟨_, PBuilder.join (⟨x2.nodes, s9⟩ : PBuilder) (hs.sel (D := [ow x2.nodes K3_0, ow s9 F9]) Q2) ⟩
   try simp only [List.cons_append, List.nil_append] at hs
   refine RetD.mk hs Q1 ?_
   refine ⟨(⟨x2.nodes, s9⟩ : PBuilder), rfl, trivial, ?_, ?_⟩
   ·
    repeat' apply And.intro
    all_goals (try dsimp only)
    all_goals first | trivial | assumption | omega | ((try simp only [List.length_append, List.length_cons, List.length_nil, lsz_app, lsz_one, lsz_cons, lsz_nil, TAddr.size, TResponse.size, TRequest.size, TPolicy.size, TEntry.size, TCache.size, strsz, TLine.size, TSent.size, TServer.size, TFile.size, List.map_append, List.map_cons, List.map_nil, PServer.lg, PToken.lg, TToken.size, PNode.lg, TNode.size, TAttr.size, PBuilder.lg, TBuilder.size, TTokenizer.size, List.length_take, List.length_drop, PPolicy.lg, PCache.lg, hl9] at *); first | omega | assumption)
   ·
    exact hs.freshD (x := (⟨x2.nodes, s9⟩ : PBuilder)) (F := Fj10) Q2
  ·
   refine WI.r (i := 3) Q0 Q0 (Yr.buildSlice hs sll38 Q0 Q0 Q0 Q4 Q0) (by rintro _ w ⟨b11, rfl, hb, hs⟩; exact hs.only Q2) ?_
   clear hs; rintro _ w ⟨b11, rfl, hb, hs⟩; clear hb
   refine WA.two (i := 1) (j := 4) Q6 ?_ ?_
   ·
    refine WI.r (i := 1) Q0 Q0 (Yl.yr (Yl.loadB sca38 Q0 hs Q1 Q0)) (by rintro _ _ ⟨rfl, rfl⟩; exact hs.only Q2) ?_
    rintro _ _ ⟨rfl, rfl⟩
    replace hs := Sat.boxow (l := ([0, 1, 2, 99] : List Int)) (hs.sel (D := [box b11 _ _]) Q2) rfl rfl (by decide) (ownL_mk_flat (lit_int Q0))
    try simp only [List.cons_append, List.nil_append] at hs
    refine WA.calld (i := 4) hs (T := 93) (b := b_) (c := c) Q2 (fun _ hs => hs.only Q2) Q6 Q0 Q0 (Yc.func Q0 fn70) (c_spec_l1Int c b_ (⟨[0, 1, 2, 99], some ⟨b11, 0, none⟩, 4⟩ : Sl Int) _ (Apart.own (s := (⟨[0, 1, 2, 99], some ⟨b11, 0, none⟩, 4⟩ : Sl Int)) (F := [b11]) hs Q2) (by exact Nat.succ_pos _) (hs.cur Q1) (Apart.now hb_c hs)) ?_
    clear hs; intro v w ho hR hs
    obtain ⟨x12, rfl, hokx12, hx12, hf12⟩ := hR
    clear ho hf12
    replace hx12 : x12 ∈ ([0, 1, 2, 99] : List Int) := hx12
    have hn12 := mem_int (0) (99) hx12 Q0
    refine WA.r (i := 5) Q6 Q0 Q0 (Yr.buildSlice hs sll38 Q0 Q0 Q0 Q4 Q0) (by rintro _ w ⟨b13, rfl, hb, hs⟩; exact hs.only Q2) ?_
    clear hs; rintro _ w ⟨b13, rfl, hb, hs⟩; clear hb
    refine WA.r (i := 6) Q6 Q0 Q0 (Yr.append (s := x2.opn) (F := K3_1) hs elt38 Q2 Q0 Q0 rfl (xs := [x12]) (hs.box_cells Q1) (by intro x hx; obtain rfl := List.mem_singleton.1 hx; exact (by first | exact (Flat.any hokx12) | trivial | assumption | exact Flat.any (by assumption) | exact ⟨by omega, by omega⟩ | (show WfS _; unfold WfS; omega) | (show WfS _; unfold WfS; simp only [List.length_append, List.length_cons, List.length_nil] at *; omega) | (refine Ph.old ?_ hs; assumption))) (by first | (unfold maxLen; omega) | omega | ((try simp only [lsz, strsz, List.length_map, PCache.lg, TCache.size, PPolicy.lg, TPolicy.size, List.length_cons, List.length_nil] at *); first | (unfold maxLen; omega) | omega)) (by first | (unfold maxLen; omega) | omega | ((try simp only [lsz, strsz, List.length_map, PCache.lg, TCache.size, PPolicy.lg, TPolicy.size, List.length_cons, List.length_nil] at *); first | (unfold maxLen; omega) | omega))) (by rintro _ w ⟨s14, F14, rfl, hl14, hs⟩; exact hs.only Q2) ?_
    clear hs; rintro _ w ⟨s14, F14, rfl, hl14, hs⟩
    refine WA.p (i := 7) Q0 Q6 Q6 Q6 Q0 (hs.only Q2) (fun w hs => Yl.fieldAddr fa40_1 Q0) ?_
    refine WA.s (i := 8) Q6 Q0 (Yr.storeB hs Q0 Q0 Q0 Q5 Q3 Q0 (by exact szf38)) (by rintro _ w hs; exact hs.only Q2) ?_
    clear hs; rintro _ w hs
    refine WA.done Q6 ?_
    refine At.blocknormal ?_
    refine At.then_ ?_
    refine WC.seq ?_
    refine WL.p Q0 (Yl.loadAB agg40 Q0 hs Q1 Q0 Q0) ?_
    refine WL.s (Yr.storeB hs Q0 Q0 Q0 Q5 Q3 Q0 (by exact szf40)) ?_
    clear hs; rintro _ w hs
    refine WL.next ?_
    refine WC.ret ?_
    refine fin1c rfl agg40 Q0 hs Q1 Q0 ?_
    obtain ⟨Fj15, hs⟩ : ∃ F, Sat _ _ _ (ow (⟨x2.nodes, s14⟩ : PBuilder) F :: _) := ⟨_, PBuilder.join (⟨x2.nodes, s14⟩ : PBuilder) (hs.sel (D := [ow x2.nodes K3_0, ow s14 F14]) Q2) ⟩
    try simp only [List.cons_append, List.nil_append] at hs
    refine RetD.mk hs Q1 ?_
    refine ⟨(⟨x2.nodes, s14⟩ : PBuilder), rfl, trivial, ?_, ?_⟩
    ·
     repeat' apply And.intro
     all_goals (try dsimp only)
     all_goals first | trivial | assumption | omega | ((try simp only [List.length_append, List.length_cons, List.length_nil, lsz_app, lsz_one, lsz_cons, lsz_nil, TAddr.size, TResponse.size, TRequest.size, TPolicy.size, TEntry.size, TCache.size, strsz, TLine.size, TSent.size, TServer.size, TFile.size, List.map_append, List.map_cons, List.map_nil, PServer.lg, PToken.lg, TToken.size, PNode.lg, TNode.size, TAttr.size, PBuilder.lg, TBuilder.size, TTokenizer.size, List.length_take, List.length_drop, PPolicy.lg, PCache.lg, hl14] at *); first | omega | assumption)
    ·
     exact hs.freshD (x := (⟨x2.nodes, s14⟩ : PBuilder)) (F := Fj15) Q2
   ·
    replace hs := Sat.boxow (l := ([0, 1, 2, 99] : List Int)) (hs.sel (D := [box b11 _ _]) Q2) rfl rfl (by decide) (ownL_mk_flat (lit_int Q0))
    try simp only [List.cons_append, List.nil_append] at hs
    refine WI.calld (i := 4) hs (T := 93) (b := b_) (c := c) Q2 (fun _ hs => hs.only Q2) Q0 Q0 (Yc.func Q0 fn70) (c_spec_l1Int c b_ (⟨[0, 1, 2, 99], some ⟨b11, 0, none⟩, 4⟩ : Sl Int) _ (Apart.own (s := (⟨[0, 1, 2, 99], some ⟨b11, 0, none⟩, 4⟩ : Sl Int)) (F := [b11]) hs Q2) (by exact Nat.succ_pos _) (hs.cur Q1) (Apart.now hb_c hs)) ?_
    clear hs; intro v w ho hR hs
    obtain ⟨x16, rfl, hokx16, hx16, hf16⟩ := hR
    clear ho hf16
    replace hx16 : x16 ∈ ([0, 1, 2, 99] : List Int) := hx16
    have hn16 := mem_int (0) (99) hx16 Q0
    refine WA.dag' [(⟨1, 11, [], (fun _ v cs => v = Sl.v x2.opn ∧ cs = [])⟩, []), (⟨5, 15, [], (fun _ v cs => ∃ b, v = .slice (some ⟨b, 0, none⟩) 1 1 ∧ cs = [box b 3 (([I (x16)]))])⟩, [])] [false, false] [(0, _), (2, _), (3, _), (4, _), (5, _), (6, _), (7, _), (8, _), (9, _), (10, _), (12, _), (13, _), (14, _)] ⟨by rfl, by rfl, by rfl, by rfl, by rfl, by rfl, by rfl, by rfl, by rfl, by rfl, by rfl, by rfl, by rfl, trivial⟩ Q0 Q6 Q6 Q6 Q6 Q6 Q6 Q6 Q6 (fun _ hs => hs.only Q2) hs (fuel := 3) ⟨⟨local_const, ?_⟩, ⟨local_const, ?_⟩, trivial⟩ ?_
    ·
     clear hs
     intro w R hs
     simp only [List.cons_append, List.nil_append] at hs
     exact Gives.p' Q0 (Yl.loadB sca38 Q0 hs Q1 Q0) ⟨[], ⟨rfl, rfl⟩, hs⟩
    ·
     clear hs
     intro w R hs
     simp only [List.cons_append, List.nil_append] at hs
     exact Gives.rr' Q0 (Yr.buildSlice hs sll38 Q0 Q0 Q0 Q4 Q0) (fun _ _ ⟨b, hv, _, hs1⟩ => ⟨[box b 3 (([I (x16)]))], ⟨b, hv, rfl⟩, hs1⟩)
    clear hs
    rintro _ _ ⟨rfl, rfl⟩
    rintro _ _ ⟨b18, rfl, rfl⟩
    intro w hs
    simp only [List.cons_append, List.nil_append, cond_true, cond_false] at hs
    refine WA.r (i := 6) Q6 Q0 Q0 (Yr.append (s := x2.opn) (F := K3_1) hs elt38 Q2 Q0 Q0 rfl (xs := [x16]) (hs.box_cells Q1) (by intro x hx; obtain rfl := List.mem_singleton.1 hx; exact (by first | exact (Flat.any hokx16) | trivial | assumption | exact Flat.any (by assumption) | exact ⟨by omega, by omega⟩ | (show WfS _; unfold WfS; omega) | (show WfS _; unfold WfS; simp only [List.length_append, List.length_cons, List.length_nil] at *; omega) | (refine Ph.old ?_ hs; assumption))) (by first | (unfold maxLen; omega) | omega | ((try simp only [lsz, strsz, List.length_map, PCache.lg, TCache.size, PPolicy.lg, TPolicy.size, List.length_cons, List.length_nil] at *); first | (unfold maxLen; omega) | omega)) (by first | (unfold maxLen; omega) | omega | ((try simp only [lsz, strsz, List.length_map, PCache.lg, TCache.size, PPolicy.lg, TPolicy.size, List.length_cons, List.length_nil] at *); first | (unfold maxLen; omega) | omega))) (by rintro _ w ⟨s19, F19, rfl, hl19, hs⟩; exact hs.only Q2) ?_
    clear hs; rintro _ w ⟨s19, F19, rfl, hl19, hs⟩
    refine WA.p (i := 7) Q0 Q6 Q6 Q6 Q0 (hs.only Q2) (fun w hs => Yl.fieldAddr fa40_1 Q0) ?_
    refine WA.s (i := 8) Q6 Q0 (Yr.storeB hs Q0 Q0 Q0 Q5 Q3 Q0 (by exact szf38)) (by rintro _ w hs; exact hs.only Q2) ?_
    clear hs; rintro _ w hs
    refine WA.done Q6 ?_
    refine At.blocknormal ?_
    refine At.then_ ?_
    refine WC.seq ?_
    refine WL.p Q0 (Yl.loadAB agg40 Q0 hs Q1 Q0 Q0) ?_
    refine WL.s (Yr.storeB hs Q0 Q0 Q0 Q5 Q3 Q0 (by exact szf40)) ?_
    clear hs; rintro _ w hs
    refine WL.next ?_
    refine WC.ret ?_
    refine fin1c rfl agg40 Q0 hs Q1 Q0 ?_
    obtain ⟨Fj20, hs⟩ : ∃ F, Sat _ _ _ (ow (⟨x2.nodes, s19⟩ : PBuilder) F :: _) := ⟨_, PBuilder.join (⟨x2.nodes, s19⟩ : PBuilder) (hs.sel (D := [ow x2.nodes K3_0, ow s19 F19]) Q2) ⟩
    try simp only [List.cons_append, List.nil_append] at hs
    refine RetD.mk hs Q1 ?_
    refine ⟨(⟨x2.nodes, s19⟩ : PBuilder), rfl, trivial, ?_, ?_⟩
    ·
     repeat' apply And.intro
     all_goals (try dsimp only)
     all_goals first | trivial | assumption | omega | ((try simp only [List.length_append, List.length_cons, List.length_nil, lsz_app, lsz_one, lsz_cons, lsz_nil, TAddr.size, TResponse.size, TRequest.size, TPolicy.size, TEntry.size, TCache.size, strsz, TLine.size, TSent.size, TServer.size, TFile.size, List.map_append, List.map_cons, List.map_nil, PServer.lg, PToken.lg, TToken.size, PNode.lg, TNode.size, TAttr.size, PBuilder.lg, TBuilder.size, TTokenizer.size, List.length_take, List.length_drop, PPolicy.lg, PCache.lg, hl19] at *); first | omega | assumption)
    ·
     exact hs.freshD (x := (⟨x2.nodes, s19⟩ : PBuilder)) (F := Fj20) Q2
 ·
  replace h1 := of_decide_eq_false h1
  refine WC.seq ?_
  refine WL.p Q0 (Yl.eqi Q0 Q0) ?_
  refine Qa ?_
  refine WL.next ?_
  refine WC.condS Q0 (fun h2 => ?_) (fun h2 => ?_)
  ·
   replace h2 := of_decide_eq_true h2
   refine WC.anyX (K := [box b4 _ _, ow x2.nodes K3_0]) mixed hs Q2 ?_
   clear hs; intro w hs
   refine WA.p (i := 0) Q0 Q6 Q6 Q6 Q0 (hs.only Q2) (fun w hs => Yl.fieldAddr fa40_0 Q0) ?_
   refine WA.p (i := 2) Q0 Q6 Q6 Q6 Q0 (hs.only Q2) (fun w hs => Yl.move Q0) ?_
   refine WA.p (i := 5) Q0 Q6 Q6 Q6 Q0 (hs.only Q2) (fun w hs => Yl.move Q0) ?_
   refine WA.p (i := 8) Q0 Q6 Q6 Q6 Q0 (hs.only Q2) (fun w hs => Yl.move Q0) ?_
   refine WA.three (i := 1) (j := 3) (k := 9) Q6 ?_ ?_ ?_
   ·
    refine WI.r (i := 1) Q0 Q0 (Yl.yr (Yl.loadB sca37 Q0 hs Q1 Q0)) (by rintro _ _ ⟨rfl, rfl⟩; exact hs.only Q2) ?_
    rintro _ _ ⟨rfl, rfl⟩
    refine WA.two (i := 3) (j := 9) Q6 ?_ ?_
    ·
     refine WI.r (i := 3) Q0 Q0 (Yr.buildSlice hs sll48 Q0 Q0 Q0 Q4 Q0) (by rintro _ w ⟨b21, rfl, hb, hs⟩; exact hs.only Q2) ?_
     clear hs; rintro _ w ⟨b21, rfl, hb, hs⟩; clear hb
     refine WA.two (i := 4) (j := 9) Q6 ?_ ?_
     ·
      replace hs := Sat.boxow (l := ([([112] : Str), ([] : Str), ([81] : Str)] : List Str)) (hs.sel (D := [box b21 _ _]) Q2) rfl rfl (by decide) (ownL_mk_flat (lit_str Q0))
      try simp only [List.cons_append, List.nil_append] at hs
      refine WI.calld (i := 4) hs (T := 93) (b := b_) (c := c) Q2 (fun _ hs => hs.only Q2) Q0 Q0 (Yc.func Q0 fn28) (c_spec_l1Str c b_ (⟨[([112] : Str), ([] : Str), ([81] : Str)], some ⟨b21, 0, none⟩, 3⟩ : Sl Str) _ (Apart.own (s := (⟨[([112] : Str), ([] : Str), ([81] : Str)], some ⟨b21, 0, none⟩, 3⟩ : Sl Str)) (F := [b21]) hs Q2) (by exact Nat.succ_pos _) (hs.cur Q1) (Apart.now hb_c hs)) ?_
      clear hs; intro v w ho hR hs
      obtain ⟨x22, rfl, hokx22, hx22, hf22⟩ := hR
      clear ho hf22
      replace hx22 : x22 ∈ ([([112] : Str), ([] : Str), ([81] : Str)] : List Str) := hx22
      have hn22 := mem_len 1 hx22 Q0
      refine WA.two (i := 6) (j := 9) Q6 ?_ ?_
      ·
       refine WI.calld (i := 6) hs (T := 93) (b := b_) (c := c) Q2 (fun _ hs => hs.only Q2) Q0 Q0 (Yc.func Q0 fn46) (c_spec_l1Below c b_ _ _ (hs.cur Q1) (Apart.now hb_c hs)) ?_
       clear hs; intro v w ho hR hs
       obtain ⟨x23, rfl, hokx23, hx23, hf23⟩ := hR
       clear ho hf23
       replace hx23 : 0 ≤ x23 ∧ x23 < 3 := ⟨hx23.1, hx23.2.2 (by decide)⟩
       refine WA.p (i := 7) Q0 Q6 Q6 Q6 Q0 (hs.only Q2) (fun w hs => Yl.sub_ Q0 Q0 Q7) ?_
       refine WA.r (i := 9) Q6 Q0 Q0 (Yr.buildSlice hs sll48 Q0 Q0 Q0 Q4 Q0) (by rintro _ w ⟨b24, rfl, hb, hs⟩; exact hs.only Q2) ?_
       clear hs; rintro _ w ⟨b24, rfl, hb, hs⟩; clear hb
       replace hs := Sat.boxow (l := ([([] : Str), ([120] : Str)] : List Str)) (hs.sel (D := [box b24 _ _]) Q2) rfl rfl (by decide) (ownL_mk_flat (lit_str Q0))
       try simp only [List.cons_append, List.nil_append] at hs
       refine WA.calld (i := 10) hs (T := 93) (b := b_) (c := c) Q2 (fun _ hs => hs.only Q2) Q6 Q0 Q0 (Yc.func Q0 fn28) (c_spec_l1Str c b_ (⟨[([] : Str), ([120] : Str)], some ⟨b24, 0, none⟩, 2⟩ : Sl Str) _ (Apart.own (s := (⟨[([] : Str), ([120] : Str)], some ⟨b24, 0, none⟩, 2⟩ : Sl Str)) (F := [b24]) hs Q2) (by exact Nat.succ_pos _) (hs.cur Q1) (Apart.now hb_c hs)) ?_
       clear hs; intro v w ho hR hs
       obtain ⟨x25, rfl, hokx25, hx25, hf25⟩ := hR
       clear ho hf25
       replace hx25 : x25 ∈ ([([] : Str), ([120] : Str)] : List Str) := hx25
       have hn25 := mem_len 1 hx25 Q0
       refine WA.p (i := 11) Q0 Q6 Q6 Q6 Q0 (hs.only Q2) (fun w hs => Yl.build bt84 Q0 Q4) ?_
       refine WA.r (i := 12) Q6 Q0 Q0 (Yr.buildSlice hs sll37 Q0 Q0 Q0 Q4 Q0) (by rintro _ w ⟨b26, rfl, hb, hs⟩; exact hs.only Q2) ?_
       clear hs; rintro _ w ⟨b26, rfl, hb, hs⟩; clear hb
       replace hs := Sat.nilsl (α := TAttr) hs
       replace hs := PNode.join (⟨x22, x25, (x23 - 1), ⟨[], none, 0⟩⟩ : PNode) (hs.sel (D := [ow (⟨[], none, 0⟩ : (Sl TAttr)) []]) Q2) (by first | exact (Flat.any hokx22) | (refine Ph.old ?_ hs; assumption) ) (by first | exact (Flat.any hokx25) | (refine Ph.old ?_ hs; assumption) ) (by first | exact trivial | (refine Ph.old ?_ hs; assumption) | exact (show WfI ((x23 - 1)) from ⟨by omega, by omega⟩))
       try simp only [List.cons_append, List.nil_append] at hs
       refine WA.r (i := 13) Q6 Q0 Q0 (Yr.appendE (s := x2.nodes) (F := K3_0) (u := (⟨x22, x25, (x23 - 1), ⟨[], none, 0⟩⟩ : PNode)) (G := []) hs elt37 Q2 Q0 Q0 (hs.box_cells Q1) (by first | (unfold maxLen; omega) | omega | ((try simp only [lsz, strsz, List.length_map, PCache.lg, TCache.size, PPolicy.lg, TPolicy.size, List.length_cons, List.length_nil] at *); first | (unfold maxLen; omega) | omega)) (by first | (unfold maxLen; omega) | omega | ((try simp only [lsz, strsz, List.length_map, PCache.lg, TCache.size, PPolicy.lg, TPolicy.size, List.length_cons, List.length_nil] at *); first | (unfold maxLen; omega) | omega))) (by rintro _ w ⟨s27, F27, rfl, hl27, hs⟩; exact hs.only Q2) ?_
       clear hs; rintro _ w ⟨s27, F27, rfl, hl27, hs⟩
       refine WA.p (i := 14) Q0 Q6 Q6 Q6 Q0 (hs.only Q2) (fun w hs => Yl.fieldAddr fa40_0 Q0) ?_
       refine WA.s (i := 15) Q6 Q0 (Yr.storeB hs Q0 Q0 Q0 Q5 Q3 Q0 (by exact szf37)) (by rintro _ w hs; exact hs.only Q2) ?_
       clear hs; rintro _ w hs
       refine WA.done Q6 ?_
       refine At.blocknormal ?_
       refine At.then_ ?_
       refine WC.seq ?_
       refine WL.p Q0 (Yl.loadAB agg40 Q0 hs Q1 Q0 Q0) ?_
       refine WL.s (Yr.storeB hs Q0 Q0 Q0 Q5 Q3 Q0 (by exact szf40)) ?_
       clear hs; rintro _ w hs
       refine WL.next ?_
       refine WC.ret ?_
       refine fin1c rfl agg40 Q0 hs Q1 Q0 ?_
       obtain ⟨Fj28, hs⟩ : ∃ F, Sat _ _ _ (ow (⟨s27, x2.opn⟩ : PBuilder) F :: _) := ⟨_, PBuilder.join (⟨s27, x2.opn⟩ : PBuilder) (hs.sel (D := [ow s27 F27, ow x2.opn K3_1]) Q2) ⟩
       try simp only [List.cons_append, List.nil_append] at hs
       refine RetD.mk hs Q1 ?_
       refine ⟨(⟨s27, x2.opn⟩ : PBuilder), rfl, trivial, ?_, ?_⟩
       ·
        repeat' apply And.intro
        all_goals (try dsimp only)
        all_goals first | trivial | assumption | omega | ((try simp only [List.length_append, List.length_cons, List.length_nil, lsz_app, lsz_one, lsz_cons, lsz_nil, TAddr.size, TResponse.size, TRequest.size, TPolicy.size, TEntry.size, TCache.size, strsz, TLine.size, TSent.size, TServer.size, TFile.size, List.map_append, List.map_cons, List.map_nil, PServer.lg, PToken.lg, TToken.size, PNode.lg, TNode.size, TAttr.size, PBuilder.lg, TBuilder.size, TTokenizer.size, List.length_take, List.length_drop, PPolicy.lg, PCache.lg, hl27] at *); first | omega | assumption)
       ·
        exact hs.freshD (x := (⟨s27, x2.opn⟩ : PBuilder)) (F := Fj28) Q2
      ·
       refine WI.r (i := 9) Q0 Q0 (Yr.buildSlice hs sll48 Q0 Q0 Q0 Q4 Q0) (by rintro _ w ⟨b29, rfl, hb, hs⟩; exact hs.only Q2) ?_
       clear hs; rintro _ w ⟨b29, rfl, hb, hs⟩; clear hb
       refine WA.calld (i := 6) hs (T := 93) (b := b_) (c := c) Q2 (fun _ hs => hs.only Q2) Q6 Q0 Q0 (Yc.func Q0 fn46) (c_spec_l1Below c b_ _ _ (hs.cur Q1) (Apart.now hb_c hs)) ?_
       clear hs; intro v w ho hR hs
       obtain ⟨x30, rfl, hokx30, hx30, hf30⟩ := hR
       clear ho hf30
       replace hx30 : 0 ≤ x30 ∧ x30 < 3 := ⟨hx30.1, hx30.2.2 (by decide)⟩
       refine WA.p (i := 7) Q0 Q6 Q6 Q6 Q0 (hs.only Q2) (fun w hs => Yl.sub_ Q0 Q0 Q7) ?_
       replace hs := Sat.boxow (l := ([([] : Str), ([120] : Str)] : List Str)) (hs.sel (D := [box b29 _ _]) Q2) rfl rfl (by decide) (ownL_mk_flat (lit_str Q0))
       try simp only [List.cons_append, List.nil_append] at hs
       refine WA.calld (i := 10) hs (T := 93) (b := b_) (c := c) Q2 (fun _ hs => hs.only Q2) Q6 Q0 Q0 (Yc.func Q0 fn28) (c_spec_l1Str c b_ (⟨[([] : Str), ([120] : Str)], some ⟨b29, 0, none⟩, 2⟩ : Sl Str) _ (Apart.own (s := (⟨[([] : Str), ([120] : Str)], some ⟨b29, 0, none⟩, 2⟩ : Sl Str)) (F := [b29]) hs Q2) (by exact Nat.succ_pos _) (hs.cur Q1) (Apart.now hb_c hs)) ?_
       clear hs; intro v w ho hR hs
       obtain ⟨x31, rfl, hokx31, hx31, hf31⟩ := hR
       clear ho hf31
       replace hx31 : x31 ∈ ([([] : Str), ([120] : Str)] : List Str) := hx31
       have hn31 := mem_len 1 hx31 Q0
       refine WA.p (i := 11) Q0 Q6 Q6 Q6 Q0 (hs.only Q2) (fun w hs => Yl.build bt84 Q0 Q4) ?_
       refine WA.r (i := 12) Q6 Q0 Q0 (Yr.buildSlice hs sll37 Q0 Q0 Q0 Q4 Q0) (by rintro _ w ⟨b32, rfl, hb, hs⟩; exact hs.only Q2) ?_
       clear hs; rintro _ w ⟨b32, rfl, hb, hs⟩; clear hb
       replace hs := Sat.nilsl (α := TAttr) hs
       replace hs := PNode.join (⟨x22, x31, (x30 - 1), ⟨[], none, 0⟩⟩ : PNode) (hs.sel (D := [ow (⟨[], none, 0⟩ : (Sl TAttr)) []]) Q2) (by first | exact (Flat.any hokx22) | (refine Ph.old ?_ hs; assumption) ) (by first | exact (Flat.any hokx31) | (refine Ph.old ?_ hs; assumption) ) (by first | exact trivial | (refine Ph.old ?_ hs; assumption) | exact (show WfI ((x30 - 1)) from ⟨by omega, by omega⟩))
       try simp only [List.cons_append, List.nil_append] at hs
       refine WA.r (i := 13) Q6 Q0 Q0 (Yr.appendE (s := x2.nodes) (F := K3_0) (u := (⟨x22, x31, (x30 - 1), ⟨[], none, 0⟩⟩ : PNode)) (G := []) hs elt37 Q2 Q0 Q0 (hs.box_cells Q1) (by first | (unfold maxLen; omega) | omega | ((try simp only [lsz, strsz, List.length_map, PCache.lg, TCache.size, PPolicy.lg, TPolicy.size, List.length_cons, List.length_nil] at *); first | (unfold maxLen; omega) | omega)) (by first | (unfold maxLen; omega) | omega | ((try simp only [lsz, strsz, List.length_map, PCache.lg, TCache.size, PPolicy.lg, TPolicy.size, List.length_cons, List.length_nil] at *); first | (unfold maxLen; omega) | omega))) (by rintro _ w ⟨s33, F33, rfl, hl33, hs⟩; exact hs.only Q2) ?_
       clear hs; rintro _ w ⟨s33, F33, rfl, hl33, hs⟩
       refine WA.p (i := 14) Q0 Q6 Q6 Q6 Q0 (hs.only Q2) (fun w hs => Yl.fieldAddr fa40_0 Q0) ?_
       refine WA.s (i := 15) Q6 Q0 (Yr.storeB hs Q0 Q0 Q0 Q5 Q3 Q0 (by exact szf37)) (by rintro _ w hs; exact hs.only Q2) ?_
       clear hs; rintro _ w hs
       refine WA.done Q6 ?_
       refine At.blocknormal ?_
       refine At.then_ ?_
       refine WC.seq ?_
       refine WL.p Q0 (Yl.loadAB agg40 Q0 hs Q1 Q0 Q0) ?_
       refine WL.s (Yr.storeB hs Q0 Q0 Q0 Q5 Q3 Q0 (by exact szf40)) ?_
       clear hs; rintro _ w hs
       refine WL.next ?_
       refine WC.ret ?_
       refine fin1c rfl agg40 Q0 hs Q1 Q0 ?_
       obtain ⟨Fj34, hs⟩ : ∃ F, Sat _ _ _ (ow (⟨s33, x2.opn⟩ : PBuilder) F :: _) := ⟨_, PBuilder.join (⟨s33, x2.opn⟩ : PBuilder) (hs.sel (D := [ow s33 F33, ow x2.opn K3_1]) Q2) ⟩
       try simp only [List.cons_append, List.nil_append] at hs
       refine RetD.mk hs Q1 ?_
       refine ⟨(⟨s33, x2.opn⟩ : PBuilder), rfl, trivial, ?_, ?_⟩
       ·
        repeat' apply And.intro
        all_goals (try dsimp only)
        all_goals first | trivial | assumption | omega | ((try simp only [List.length_append, List.length_cons, List.length_nil, lsz_app, lsz_one, lsz_cons, lsz_nil, TAddr.size, TResponse.size, TRequest.size, TPolicy.size, TEntry.size, TCache.size, strsz, TLine.size, TSent.size, TServer.size, TFile.size, List.map_append, List.map_cons, List.map_nil, PServer.lg, PToken.lg, TToken.size, PNode.lg, TNode.size, TAttr.size, PBuilder.lg, TBuilder.size, TTokenizer.size, List.length_take, List.length_drop, PPolicy.lg, PCache.lg, hl33] at *); first | omega | assumption)
       ·
        exact hs.freshD (x := (⟨s33, x2.opn⟩ : PBuilder)) (F := Fj34) Q2
     ·
      refine WI.r (i := 9) Q0 Q0 (Yr.buildSlice hs sll48 Q0 Q0 Q0 Q4 Q0) (by rintro _ w ⟨b35, rfl, hb, hs⟩; exact hs.only Q2) ?_
      clear hs; rintro _ w ⟨b35, rfl, hb, hs⟩; clear hb
      replace hs := Sat.boxow (l := ([([112] : Str), ([] : Str), ([81] : Str)] : List Str)) (hs.sel (D := [box b21 _ _]) Q2) rfl rfl (by decide) (ownL_mk_flat (lit_str Q0))
      try simp only [List.cons_append, List.nil_append] at hs
      refine WA.calld (i := 4) hs (T := 93) (b := b_) (c := c) Q2 (fun _ hs => hs.only Q2) Q6 Q0 Q0 (Yc.func Q0 fn28) (c_spec_l1Str c b_ (⟨[([112] : Str), ([] : Str), ([81] : Str)], some ⟨b21, 0, none⟩, 3⟩ : Sl Str) _ (Apart.own (s := (⟨[([112] : Str), ([] : Str), ([81] : Str)], some ⟨b21, 0, none⟩, 3⟩ : Sl Str)) (F := [b21]) hs Q2) (by exact Nat.succ_pos _) (hs.cur Q1) (Apart.now hb_c hs)) ?_
      clear hs; intro v w ho hR hs
      obtain ⟨x36, rfl, hokx36, hx36, hf36⟩ := hR
      clear ho hf36
      replace hx36 : x36 ∈ ([([112] : Str), ([] : Str), ([81] : Str)] : List Str) := hx36
      have hn36 := mem_len 1 hx36 Q0
      refine WA.calld (i := 6) hs (T := 93) (b := b_) (c := c) Q2 (fun _ hs => hs.only Q2) Q6 Q0 Q0 (Yc.func Q0 fn46) (c_spec_l1Below c b_ _ _ (hs.cur Q1) (Apart.now hb_c hs)) ?_
      clear hs; intro v w ho hR hs
      obtain ⟨x37, rfl, hokx37, hx37, hf37⟩ := hR
      clear ho hf37
      replace hx37 : 0 ≤ x37 ∧ x37 < 3 := ⟨hx37.1, hx37.2.2 (by decide)⟩
      refine WA.p (i := 7) Q0 Q6 Q6 Q6 Q0 (hs.only Q2) (fun w hs => Yl.sub_ Q0 Q0 Q7) ?_
      replace hs := Sat.boxow (l := ([([] : Str), ([120] : Str)] : List Str)) (hs.sel (D := [box b35 _ _]) Q2) rfl rfl (by decide) (ownL_mk_flat (lit_str Q0))
      try simp only [List.cons_append, List.nil_append] at hs
      refine WA.calld (i := 10) hs (T := 93) (b := b_) (c := c) Q2 (fun _ hs => hs.only Q2) Q6 Q0 Q0 (Yc.func Q0 fn28) (c_spec_l1Str c b_ (⟨[([] : Str), ([120] : Str)], some ⟨b35, 0, none⟩, 2⟩ : Sl Str) _ (Apart.own (s := (⟨[([] : Str), ([120] : Str)], some ⟨b35, 0, none⟩, 2⟩ : Sl Str)) (F := [b35]) hs Q2) (by exact Nat.succ_pos _) (hs.cur Q1) (Apart.now hb_c hs)) ?_
      clear hs; intro v w ho hR hs
      obtain ⟨x38, rfl, hokx38, hx38, hf38⟩ := hR
      clear ho hf38
      replace hx38 : x38 ∈ ([([] : Str), ([120] : Str)] : List Str) := hx38
      have hn38 := mem_len 1 hx38 Q0
      refine WA.p (i := 11) Q0 Q6 Q6 Q6 Q0 (hs.only Q2) (fun w hs => Yl.build bt84 Q0 Q4) ?_
      refine WA.r (i := 12) Q6 Q0 Q0 (Yr.buildSlice hs sll37 Q0 Q0 Q0 Q4 Q0) (by rintro _ w ⟨b39, rfl, hb, hs⟩; exact hs.only Q2) ?_
      clear hs; rintro _ w ⟨b39, rfl, hb, hs⟩; clear hb
      replace hs := Sat.nilsl (α := TAttr) hs
      replace hs := PNode.join (⟨x36, x38, (x37 - 1), ⟨[], none, 0⟩⟩ : PNode) (hs.sel (D := [ow (⟨[], none, 0⟩ : (Sl TAttr)) []]) Q2) (by first | exact (Flat.any hokx36) | (refine Ph.old ?_ hs; assumption) ) (by first | exact (Flat.any hokx38) | (refine Ph.old ?_ hs; assumption) ) (by first | exact trivial | (refine Ph.old ?_ hs; assumption) | exact (show WfI ((x37 - 1)) from ⟨by omega, by omega⟩))
      try simp only [List.cons_append, List.nil_append] at hs
      refine WA.r (i := 13) Q6 Q0 Q0 (Yr.appendE (s := x2.nodes) (F := K3_0) (u := (⟨x36, x38, (x37 - 1), ⟨[], none, 0⟩⟩ : PNode)) (G := []) hs elt37 Q2 Q0 Q0 (hs.box_cells Q1) (by first | (unfold maxLen; omega) | omega | ((try simp only [lsz, strsz, List.length_map, PCache.lg, TCache.size, PPolicy.lg, TPolicy.size, List.length_cons, List.length_nil] at *); first | (unfold maxLen; omega) | omega)) (by first | (unfold maxLen; omega) | omega | ((try simp only [lsz, strsz, List.length_map, PCache.lg, TCache.size, PPolicy.lg, TPolicy.size, List.length_cons, List.length_nil] at *); first | (unfold maxLen; omega) | omega))) (by rintro _ w ⟨s40, F40, rfl, hl40, hs⟩; exact hs.only Q2) ?_
      clear hs; rintro _ w ⟨s40, F40, rfl, hl40, hs⟩
      refine WA.p (i := 14) Q0 Q6 Q6 Q6 Q0 (hs.only Q2) (fun w hs => Yl.fieldAddr fa40_0 Q0) ?_
      refine WA.s (i := 15) Q6 Q0 (Yr.storeB hs Q0 Q0 Q0 Q5 Q3 Q0 (by exact szf37)) (by rintro _ w hs; exact hs.only Q2) ?_
      clear hs; rintro _ w hs
      refine WA.done Q6 ?_
      refine At.blocknormal ?_
      refine At.then_ ?_
      refine WC.seq ?_
      refine WL.p Q0 (Yl.loadAB agg40 Q0 hs Q1 Q0 Q0) ?_
      refine WL.s (Yr.storeB hs Q0 Q0 Q0 Q5 Q3 Q0 (by exact szf40)) ?_
      clear hs; rintro _ w hs
      refine WL.next ?_
      refine WC.ret ?_
      refine fin1c rfl agg40 Q0 hs Q1 Q0 ?_
      obtain ⟨Fj41, hs⟩ : ∃ F, Sat _ _ _ (ow (⟨s40, x2.opn⟩ : PBuilder) F :: _) := ⟨_, PBuilder.join (⟨s40, x2.opn⟩ : PBuilder) (hs.sel (D := [ow s40 F40, ow x2.opn K3_1]) Q2) ⟩
      try simp only [List.cons_append, List.nil_append] at hs
      refine RetD.mk hs Q1 ?_
      refine ⟨(⟨s40, x2.opn⟩ : PBuilder), rfl, trivial, ?_, ?_⟩
      ·
       repeat' apply And.intro
       all_goals (try dsimp only)
       all_goals first | trivial | assumption | omega | ((try simp only [List.length_append, List.length_cons, List.length_nil, lsz_app, lsz_one, lsz_cons, lsz_nil, TAddr.size, TResponse.size, TRequest.size, TPolicy.size, TEntry.size, TCache.size, strsz, TLine.size, TSent.size, TServer.size, TFile.size, List.map_append, List.map_cons, List.map_nil, PServer.lg, PToken.lg, TToken.size, PNode.lg, TNode.size, TAttr.size, PBuilder.lg, TBuilder.size, TTokenizer.size, List.length_take, List.length_drop, PPolicy.lg, PCache.lg, hl40] at *); first | omega | assumption)
      ·
       exact hs.freshD (x := (⟨s40, x2.opn⟩ : PBuilder)) (F := Fj41) Q2
    ·
     refine WI.r (i := 9) Q0 Q0 (Yr.buildSlice hs sll48 Q0 Q0 Q0 Q4 Q0) (by rintro _ w ⟨b42, rfl, hb, hs⟩; exact hs.only Q2) ?_
     clear hs; rintro _ w ⟨b42, rfl, hb, hs⟩; clear hb
     refine WA.r (i := 3) Q6 Q0 Q0 (Yr.buildSlice hs sll48 Q0 Q0 Q0 Q4 Q0) (by rintro _ w ⟨b43, rfl, hb, hs⟩; exact hs.only Q2) ?_
     clear hs; rintro _ w ⟨b43, rfl, hb, hs⟩; clear hb
     replace hs := Sat.boxow (l := ([([112] : Str), ([] : Str), ([81] : Str)] : List Str)) (hs.sel (D := [box b43 _ _]) Q2) rfl rfl (by decide) (ownL_mk_flat (lit_str Q0))
     try simp only [List.cons_append, List.nil_append] at hs
     refine WA.calld (i := 4) hs (T := 93) (b := b_) (c := c) Q2 (fun _ hs => hs.only Q2) Q6 Q0 Q0 (Yc.func Q0 fn28) (c_spec_l1Str c b_ (⟨[([112] : Str), ([] : Str), ([81] : Str)], some ⟨b43, 0, none⟩, 3⟩ : Sl Str) _ (Apart.own (s := (⟨[([112] : Str), ([] : Str), ([81] : Str)], some ⟨b43, 0, none⟩, 3⟩ : Sl Str)) (F := [b43]) hs Q2) (by exact Nat.succ_pos _) (hs.cur Q1) (Apart.now hb_c hs)) ?_
     clear hs; intro v w ho hR hs
     obtain ⟨x44, rfl, hokx44, hx44, hf44⟩ := hR
     clear ho hf44
     replace hx44 : x44 ∈ ([([112] : Str), ([] : Str), ([81] : Str)] : List Str) := hx44
     have hn44 := mem_len 1 hx44 Q0
     refine WA.calld (i := 6) hs (T := 93) (b := b_) (c := c) Q2 (fun _ hs => hs.only Q2) Q6 Q0 Q0 (Yc.func Q0 fn46) (c_spec_l1Below c b_ _ _ (hs.cur Q1) (Apart.now hb_c hs)) ?_
     clear hs; intro v w ho hR hs
     obtain ⟨x45, rfl, hokx45, hx45, hf45⟩ := hR
     clear ho hf45
     replace hx45 : 0 ≤ x45 ∧ x45 < 3 := ⟨hx45.1, hx45.2.2 (by decide)⟩
     refine WA.p (i := 7) Q0 Q6 Q6 Q6 Q0 (hs.only Q2) (fun w hs => Yl.sub_ Q0 Q0 Q7) ?_
     replace hs := Sat.boxow (l := ([([] : Str), ([120] : Str)] : List Str)) (hs.sel (D := [box b42 _ _]) Q2) rfl rfl (by decide) (ownL_mk_flat (lit_str Q0))
     try simp only [List.cons_append, List.nil_append] at hs
     refine WA.calld (i := 10) hs (T := 93) (b := b_) (c := c) Q2 (fun _ hs => hs.only Q2) Q6 Q0 Q0 (Yc.func Q0 fn28) (c_spec_l1Str c b_ (⟨[([] : Str), ([120] : Str)], some ⟨b42, 0, none⟩, 2⟩ : Sl Str) _ (Apart.own (s := (⟨[([] : Str), ([120] : Str)], some ⟨b42, 0, none⟩, 2⟩ : Sl Str)) (F := [b42]) hs Q2) (by exact Nat.succ_pos _) (hs.cur Q1) (Apart.now hb_c hs)) ?_
     clear hs; intro v w ho hR hs
     obtain ⟨x46, rfl, hokx46, hx46, hf46⟩ := hR
     clear ho hf46
     replace hx46 : x46 ∈ ([([] : Str), ([120] : Str)] : List Str) := hx46
     have hn46 := mem_len 1 hx46 Q0
     refine WA.p (i := 11) Q0 Q6 Q6 Q6 Q0 (hs.only Q2) (fun w hs => Yl.build bt84 Q0 Q4) ?_
     refine WA.r (i := 12) Q6 Q0 Q0 (Yr.buildSlice hs sll37 Q0 Q0 Q0 Q4 Q0) (by rintro _ w ⟨b47, rfl, hb, hs⟩; exact hs.only Q2) ?_
     clear hs; rintro _ w ⟨b47, rfl, hb, hs⟩; clear hb
     replace hs := Sat.nilsl (α := TAttr) hs
     replace hs := PNode.join (⟨x44, x46, (x45 - 1), ⟨[], none, 0⟩⟩ : PNode) (hs.sel (D := [ow (⟨[], none, 0⟩ : (Sl TAttr)) []]) Q2) (by first | exact (Flat.any hokx44) | (refine Ph.old ?_ hs; assumption) ) (by first | exact (Flat.any hokx46) | (refine Ph.old ?_ hs; assumption) ) (by first | exact trivial | (refine Ph.old ?_ hs; assumption) | exact (show WfI ((x45 - 1)) from ⟨by omega, by omega⟩))
     try simp only [List.cons_append, List.nil_append] at hs
     refine WA.r (i := 13) Q6 Q0 Q0 (Yr.appendE (s := x2.nodes) (F := K3_0) (u := (⟨x44, x46, (x45 - 1), ⟨[], none, 0⟩⟩ : PNode)) (G := []) hs elt37 Q2 Q0 Q0 (hs.box_cells Q1) (by first | (unfold maxLen; omega) | omega | ((try simp only [lsz, strsz, List.length_map, PCache.lg, TCache.size, PPolicy.lg, TPolicy.size, List.length_cons, List.length_nil] at *); first | (unfold maxLen; omega) | omega)) (by first | (unfold maxLen; omega) | omega | ((try simp only [lsz, strsz, List.length_map, PCache.lg, TCache.size, PPolicy.lg, TPolicy.size, List.length_cons, List.length_nil] at *); first | (unfold maxLen; omega) | omega))) (by rintro _ w ⟨s48, F48, rfl, hl48, hs⟩; exact hs.only Q2) ?_
     clear hs; rintro _ w ⟨s48, F48, rfl, hl48, hs⟩
     refine WA.p (i := 14) Q0 Q6 Q6 Q6 Q0 (hs.only Q2) (fun w hs => Yl.fieldAddr fa40_0 Q0) ?_
     refine WA.s (i := 15) Q6 Q0 (Yr.storeB hs Q0 Q0 Q0 Q5 Q3 Q0 (by exact szf37)) (by rintro _ w hs; exact hs.only Q2) ?_
     clear hs; rintro _ w hs
     refine WA.done Q6 ?_
     refine At.blocknormal ?_
     refine At.then_ ?_
     refine WC.seq ?_
     refine WL.p Q0 (Yl.loadAB agg40 Q0 hs Q1 Q0 Q0) ?_
     refine WL.s (Yr.storeB hs Q0 Q0 Q0 Q5 Q3 Q0 (by exact szf40)) ?_
     clear hs; rintro _ w hs
     refine WL.next ?_
     refine WC.ret ?_
     refine fin1c rfl agg40 Q0 hs Q1 Q0 ?_
     obtain ⟨Fj49, hs⟩ : ∃ F, Sat _ _ _ (ow (⟨s48, x2.opn⟩ : PBuilder) F :: _) := ⟨_, PBuilder.join (⟨s48, x2.opn⟩ : PBuilder) (hs.sel (D := [ow s48 F48, ow x2.opn K3_1]) Q2) ⟩
     try simp only [List.cons_append, List.nil_append] at hs
     refine RetD.mk hs Q1 ?_
     refine ⟨(⟨s48, x2.opn⟩ : PBuilder), rfl, trivial, ?_, ?_⟩
     ·
      repeat' apply And.intro
      all_goals (try dsimp only)
      all_goals first | trivial | assumption | omega | ((try simp only [List.length_append, List.length_cons, List.length_nil, lsz_app, lsz_one, lsz_cons, lsz_nil, TAddr.size, TResponse.size, TRequest.size, TPolicy.size, TEntry.size, TCache.size, strsz, TLine.size, TSent.size, TServer.size, TFile.size, List.map_append, List.map_cons, List.map_nil, PServer.lg, PToken.lg, TToken.size, PNode.lg, TNode.size, TAttr.size, PBuilder.lg, TBuilder.size, TTokenizer.size, List.length_take, List.length_drop, PPolicy.lg, PCache.lg, hl48] at *); first | omega | assumption)
     ·
      exact hs.freshD (x := (⟨s48, x2.opn⟩ : PBuilder)) (F := Fj49) Q2
   ·
    refine WI.r (i := 3) Q0 Q0 (Yr.buildSlice hs sll48 Q0 Q0 Q0 Q4 Q0) (by rintro _ w ⟨b50, rfl, hb, hs⟩; exact hs.only Q2) ?_
    clear hs; rintro _ w ⟨b50, rfl, hb, hs⟩; clear hb
    refine WA.three (i := 1) (j := 4) (k := 9) Q6 ?_ ?_ ?_
    ·
     refine WI.r (i := 1) Q0 Q0 (Yl.yr (Yl.loadB sca37 Q0 hs Q1 Q0)) (by rintro _ _ ⟨rfl, rfl⟩; exact hs.only Q2) ?_
     rintro _ _ ⟨rfl, rfl⟩
     refine WA.two (i := 4) (j := 9) Q6 ?_ ?_
     ·
      replace hs := Sat.boxow (l := ([([112] : Str), ([] : Str), ([81] : Str)] : List Str)) (hs.sel (D := [box b50 _ _]) Q2) rfl rfl (by decide) (ownL_mk_flat (lit_str Q0))
      try simp only [List.cons_append, List.nil_append] at hs
      refine WI.calld (i := 4) hs (T := 93) (b := b_) (c := c) Q2 (fun _ hs => hs.only Q2) Q0 Q0 (Yc.func Q0 fn28) (c_spec_l1Str c b_ (⟨[([112] : Str), ([] : Str), ([81] : Str)], some ⟨b50, 0, none⟩, 3⟩ : Sl Str) _ (Apart.own (s := (⟨[([112] : Str), ([] : Str), ([81] : Str)], some ⟨b50, 0, none⟩, 3⟩ : Sl Str)) (F := [b50]) hs Q2) (by exact Nat.succ_pos _) (hs.cur Q1) (Apart.now hb_c hs)) ?_
      clear hs; intro v w ho hR hs
      obtain ⟨x51, rfl, hokx51, hx51, hf51⟩ := hR
      clear ho hf51
      replace hx51 : x51 ∈ ([([112] : Str), ([] : Str), ([81] : Str)] : List Str) := hx51
      have hn51 := mem_len 1 hx51 Q0
      refine WA.two (i := 6) (j := 9) Q6 ?_ ?_
      ·
       refine WI.calld (i := 6) hs (T := 93) (b := b_) (c := c) Q2 (fun _ hs => hs.only Q2) Q0 Q0 (Yc.func Q0 fn46) (c_spec_l1Below c b_ _ _ (hs.cur Q1) (Apart.now hb_c hs)) ?_
       clear hs; intro v w ho hR hs
       obtain ⟨x52, rfl, hokx52, hx52, hf52⟩ := hR
       clear ho hf52
       replace hx52 : 0 ≤ x52 ∧ x52 < 3 := ⟨hx52.1, hx52.2.2 (by decide)⟩
       refine WA.p (i := 7) Q0 Q6 Q6 Q6 Q0 (hs.only Q2) (fun w hs => Yl.sub_ Q0 Q0 Q7) ?_
       refine WA.r (i := 9) Q6 Q0 Q0 (Yr.buildSlice hs sll48 Q0 Q0 Q0 Q4 Q0) (by rintro _ w ⟨b53, rfl, hb, hs⟩; exact hs.only Q2) ?_
       clear hs; rintro _ w ⟨b53, rfl, hb, hs⟩; clear hb
       replace hs := Sat.boxow (l := ([([] : Str), ([120] : Str)] : List Str)) (hs.sel (D := [box b53 _ _]) Q2) rfl rfl (by decide) (ownL_mk_flat (lit_str Q0))
       try simp only [List.cons_append, List.nil_append] at hs
       refine WA.calld (i := 10) hs (T := 93) (b := b_) (c := c) Q2 (fun _ hs => hs.only Q2) Q6 Q0 Q0 (Yc.func Q0 fn28) (c_spec_l1Str c b_ (⟨[([] : Str), ([120] : Str)], some ⟨b53, 0, none⟩, 2⟩ : Sl Str) _ (Apart.own (s := (⟨[([] : Str), ([120] : Str)], some ⟨b53, 0, none⟩, 2⟩ : Sl Str)) (F := [b53]) hs Q2) (by exact Nat.succ_pos _) (hs.cur Q1) (Apart.now hb_c hs)) ?_
       clear hs; intro v w ho hR hs
       obtain ⟨x54, rfl, hokx54, hx54, hf54⟩ := hR
       clear ho hf54
       replace hx54 : x54 ∈ ([([] : Str), ([120] : Str)] : List Str) := hx54
       have hn54 := mem_len 1 hx54 Q0
       refine WA.p (i := 11) Q0 Q6 Q6 Q6 Q0 (hs.only Q2) (fun w hs => Yl.build bt84 Q0 Q4) ?_
       refine WA.r (i := 12) Q6 Q0 Q0 (Yr.buildSlice hs sll37 Q0 Q0 Q0 Q4 Q0) (by rintro _ w ⟨b55, rfl, hb, hs⟩; exact hs.only Q2) ?_
       clear hs; rintro _ w ⟨b55, rfl, hb, hs⟩; clear hb
       replace hs := Sat.nilsl (α := TAttr) hs
       replace hs := PNode.join (⟨x51, x54, (x52 - 1), ⟨[], none, 0⟩⟩ : PNode) (hs.sel (D := [ow (⟨[], none, 0⟩ : (Sl TAttr)) []]) Q2) (by first | exact (Flat.any hokx51) | (refine Ph.old ?_ hs; assumption) ) (by first | exact (Flat.any hokx54) | (refine Ph.old ?_ hs; assumption) ) (by first | exact trivial | (refine Ph.old ?_ hs; assumption) | exact (show WfI ((x52 - 1)) from ⟨by omega, by omega⟩))
       try simp only [List.cons_append, List.nil_append] at hs
       refine WA.r (i := 13) Q6 Q0 Q0 (Yr.appendE (s := x2.nodes) (F := K3_0) (u := (⟨x51, x54, (x52 - 1), ⟨[], none, 0⟩⟩ : PNode)) (G := []) hs elt37 Q2 Q0 Q0 (hs.box_cells Q1) (by first | (unfold maxLen; omega) | omega | ((try simp only [lsz, strsz, List.length_map, PCache.lg, TCache.size, PPolicy.lg, TPolicy.size, List.length_cons, List.length_nil] at *); first | (unfold maxLen; omega) | omega)) (by first | (unfold maxLen; omega) | omega | ((try simp only [lsz, strsz, List.length_map, PCache.lg, TCache.size, PPolicy.lg, TPolicy.size, List.length_cons, List.length_nil] at *); first | (unfold maxLen; omega) | omega))) (by rintro _ w ⟨s56, F56, rfl, hl56, hs⟩; exact hs.only Q2) ?_
       clear hs; rintro _ w ⟨s56, F56, rfl, hl56, hs⟩
       refine WA.p (i := 14) Q0 Q6 Q6 Q6 Q0 (hs.only Q2) (fun w hs => Yl.fieldAddr fa40_0 Q0) ?_
       refine WA.s (i := 15) Q6 Q0 (Yr.storeB hs Q0 Q0 Q0 Q5 Q3 Q0 (by exact szf37)) (by rintro _ w hs; exact hs.only Q2) ?_
       clear hs; rintro _ w hs
       refine WA.done Q6 ?_
       refine At.blocknormal ?_
       refine At.then_ ?_
       refine WC.seq ?_
       refine WL.p Q0 (Yl.loadAB agg40 Q0 hs Q1 Q0 Q0) ?_
       refine WL.s (Yr.storeB hs Q0 Q0 Q0 Q5 Q3 Q0 (by exact szf40)) ?_
       clear hs; rintro _ w hs
       refine WL.next ?_
       refine WC.ret ?_
       refine fin1c rfl agg40 Q0 hs Q1 Q0 ?_
       obtain ⟨Fj57, hs⟩ : ∃ F, Sat _ _ _ (ow (⟨s56, x2.opn⟩ : PBuilder) F :: _) := ⟨_, PBuilder.join (⟨s56, x2.opn⟩ : PBuilder) (hs.sel (D := [ow s56 F56, ow x2.opn K3_1]) Q2) ⟩
       try simp only [List.cons_append, List.nil_append] at hs
       refine RetD.mk hs Q1 ?_
       refine ⟨(⟨s56, x2.opn⟩ : PBuilder), rfl, trivial, ?_, ?_⟩
       ·
        repeat' apply And.intro
        all_goals (try dsimp only)
        all_goals first | trivial | assumption | omega | ((try simp only [List.length_append, List.length_cons, List.length_nil, lsz_app, lsz_one, lsz_cons, lsz_nil, TAddr.size, TResponse.size, TRequest.size, TPolicy.size, TEntry.size, TCache.size, strsz, TLine.size, TSent.size, TServer.size, TFile.size, List.map_append, List.map_cons, List.map_nil, PServer.lg, PToken.lg, TToken.size, PNode.lg, TNode.size, TAttr.size, PBuilder.lg, TBuilder.size, TTokenizer.size, List.length_take, List.length_drop, PPolicy.lg, PCache.lg, hl56] at *); first | omega | assumption)
       ·
        exact hs.freshD (x := (⟨s56, x2.opn⟩ : PBuilder)) (F := Fj57) Q2
      ·
       refine WI.r (i := 9) Q0 Q0 (Yr.buildSlice hs sll48 Q0 Q0 Q0 Q4 Q0) (by rintro _ w ⟨b58, rfl, hb, hs⟩; exact hs.only Q2) ?_
       clear hs; rintro _ w ⟨b58, rfl, hb, hs⟩; clear hb
       refine WA.calld (i := 6) hs (T := 93) (b := b_) (c := c) Q2 (fun _ hs => hs.only Q2) Q6 Q0 Q0 (Yc.func Q0 fn46) (c_spec_l1Below c b_ _ _ (hs.cur Q1) (Apart.now hb_c hs)) ?_
       clear hs; intro v w ho hR hs
       obtain ⟨x59, rfl, hokx59, hx59, hf59⟩ := hR
       clear ho hf59
       replace hx59 : 0 ≤ x59 ∧ x59 < 3 := ⟨hx59.1, hx59.2.2 (by decide)⟩
       refine WA.p (i := 7) Q0 Q6 Q6 Q6 Q0 (hs.only Q2) (fun w hs => Yl.sub_ Q0 Q0 Q7) ?_
       replace hs := Sat.boxow (l := ([([] : Str), ([120] : Str)] : List Str)) (hs.sel (D := [box b58 _ _]) Q2) rfl rfl (by decide) (ownL_mk_flat (lit_str Q0))
       try simp only [List.cons_append, List.nil_append] at hs
       refine WA.calld (i := 10) hs (T := 93) (b := b_) (c := c) Q2 (fun _ hs => hs.only Q2) Q6 Q0 Q0 (Yc.func Q0 fn28) (c_spec_l1Str c b_ (⟨[([] : Str), ([120] : Str)], some ⟨b58, 0, none⟩, 2⟩ : Sl Str) _ (Apart.own (s := (⟨[([] : Str), ([120] : Str)], some ⟨b58, 0, none⟩, 2⟩ : Sl Str)) (F := [b58]) hs Q2) (by exact Nat.succ_pos _) (hs.cur Q1) (Apart.now hb_c hs)) ?_
       clear hs; intro v w ho hR hs
       obtain ⟨x60, rfl, hokx60, hx60, hf60⟩ := hR
       clear ho hf60
       replace hx60 : x60 ∈ ([([] : Str), ([120] : Str)] : List Str) := hx60
       have hn60 := mem_len 1 hx60 Q0
       refine WA.p (i := 11) Q0 Q6 Q6 Q6 Q0 (hs.only Q2) (fun w hs => Yl.build bt84 Q0 Q4) ?_
       refine WA.r (i := 12) Q6 Q0 Q0 (Yr.buildSlice hs sll37 Q0 Q0 Q0 Q4 Q0) (by rintro _ w ⟨b61, rfl, hb, hs⟩; exact hs.only Q2) ?_
       clear hs; rintro _ w ⟨b61, rfl, hb, hs⟩; clear hb
       replace hs := Sat.nilsl (α := TAttr) hs
       replace hs := PNode.join (⟨x51, x60, (x59 - 1), ⟨[], none, 0⟩⟩ : PNode) (hs.sel (D := [ow (⟨[], none, 0⟩ : (Sl TAttr)) []]) Q2) (by first | exact (Flat.any hokx51) | (refine Ph.old ?_ hs; assumption) ) (by first | exact (Flat.any hokx60) | (refine Ph.old ?_ hs; assumption) ) (by first | exact trivial | (refine Ph.old ?_ hs; assumption) | exact (show WfI ((x59 - 1)) from ⟨by omega, by omega⟩))
       try simp only [List.cons_append, List.nil_append] at hs
       refine WA.r (i := 13) Q6 Q0 Q0 (Yr.appendE (s := x2.nodes) (F := K3_0) (u := (⟨x51, x60, (x59 - 1), ⟨[], none, 0⟩⟩ : PNode)) (G := []) hs elt37 Q2 Q0 Q0 (hs.box_cells Q1) (by first | (unfold maxLen; omega) | omega | ((try simp only [lsz, strsz, List.length_map, PCache.lg, TCache.size, PPolicy.lg, TPolicy.size, List.length_cons, List.length_nil] at *); first | (unfold maxLen; omega) | omega)) (by first | (unfold maxLen; omega) | omega | ((try simp only [lsz, strsz, List.length_map, PCache.lg, TCache.size, PPolicy.lg, TPolicy.size, List.length_cons, List.length_nil] at *); first | (unfold maxLen; omega) | omega))) (by rintro _ w ⟨s62, F62, rfl, hl62, hs⟩; exact hs.only Q2) ?_
       clear hs; rintro _ w ⟨s62, F62, rfl, hl62, hs⟩
       refine WA.p (i := 14) Q0 Q6 Q6 Q6 Q0 (hs.only Q2) (fun w hs => Yl.fieldAddr fa40_0 Q0) ?_
       refine WA.s (i := 15) Q6 Q0 (Yr.storeB hs Q0 Q0 Q0 Q5 Q3 Q0 (by exact szf37)) (by rintro _ w hs; exact hs.only Q2) ?_
       clear hs; rintro _ w hs
       refine WA.done Q6 ?_
       refine At.blocknormal ?_
       refine At.then_ ?_
       refine WC.seq ?_
       refine WL.p Q0 (Yl.loadAB agg40 Q0 hs Q1 Q0 Q0) ?_
       refine WL.s (Yr.storeB hs Q0 Q0 Q0 Q5 Q3 Q0 (by exact szf40)) ?_
       clear hs; rintro _ w hs
       refine WL.next ?_
       refine WC.ret ?_
       refine fin1c rfl agg40 Q0 hs Q1 Q0 ?_
       obtain ⟨Fj63, hs⟩ : ∃ F, Sat _ _ _ (ow (⟨s62, x2.opn⟩ : PBuilder) F :: _) := ⟨_, PBuilder.join (⟨s62, x2.opn⟩ : PBuilder) (hs.sel (D := [ow s62 F62, ow x2.opn K3_1]) Q2) ⟩
       try simp only [List.cons_append, List.nil_append] at hs
       refine RetD.mk hs Q1 ?_
       refine ⟨(⟨s62, x2.opn⟩ : PBuilder), rfl, trivial, ?_, ?_⟩
       ·
        repeat' apply And.intro
        all_goals (try dsimp only)
        all_goals first | trivial | assumption | omega | ((try simp only [List.length_append, List.length_cons, List.length_nil, lsz_app, lsz_one, lsz_cons, lsz_nil, TAddr.size, TResponse.size, TRequest.size, TPolicy.size, TEntry.size, TCache.size, strsz, TLine.size, TSent.size, TServer.size, TFile.size, List.map_append, List.map_cons, List.map_nil, PServer.lg, PToken.lg, TToken.size, PNode.lg, TNode.size, TAttr.size, PBuilder.lg, TBuilder.size, TTokenizer.size, List.length_take, List.length_drop, PPolicy.lg, PCache.lg, hl62] at *); first | omega | assumption)
       ·
        exact hs.freshD (x := (⟨s62, x2.opn⟩ : PBuilder)) (F := Fj63) Q2
     ·
      refine WI.r (i := 9) Q0 Q0 (Yr.buildSlice hs sll48 Q0 Q0 Q0 Q4 Q0) (by rintro _ w ⟨b64, rfl, hb, hs⟩; exact hs.only Q2) ?_
      clear hs; rintro _ w ⟨b64, rfl, hb, hs⟩; clear hb
      replace hs := Sat.boxow (l := ([([112] : Str), ([] : Str), ([81] : Str)] : List Str)) (hs.sel (D := [box b50 _ _]) Q2) rfl rfl (by decide) (ownL_mk_flat (lit_str Q0))
      try simp only [List.cons_append, List.nil_append] at hs
      refine WA.calld (i := 4) hs (T := 93) (b := b_) (c := c) Q2 (fun _ hs => hs.only Q2) Q6 Q0 Q0 (Yc.func Q0 fn28) (c_spec_l1Str c b_ (⟨[([112] : Str), ([] : Str), ([81] : Str)], some ⟨b50, 0, none⟩, 3⟩ : Sl Str) _ (Apart.own (s := (⟨[([112] : Str), ([] : Str), ([81] : Str)], some ⟨b50, 0, none⟩, 3⟩ : Sl Str)) (F := [b50]) hs Q2) (by exact Nat.succ_pos _) (hs.cur Q1) (Apart.now hb_c hs)) ?_
      clear hs; intro v w ho hR hs
      obtain ⟨x65, rfl, hokx65, hx65, hf65⟩ := hR
      clear ho hf65
      replace hx65 : x65 ∈ ([([112] : Str), ([] : Str), ([81] : Str)] : List Str) := hx65
      have hn65 := mem_len 1 hx65 Q0
      refine WA.calld (i := 6) hs (T := 93) (b := b_) (c := c) Q2 (fun _ hs => hs.only Q2) Q6 Q0 Q0 (Yc.func Q0 fn46) (c_spec_l1Below c b_ _ _ (hs.cur Q1) (Apart.now hb_c hs)) ?_
      clear hs; intro v w ho hR hs
      obtain ⟨x66, rfl, hokx66, hx66, hf66⟩ := hR
      clear ho hf66
      replace hx66 : 0 ≤ x66 ∧ x66 < 3 := ⟨hx66.1, hx66.2.2 (by decide)⟩
      refine WA.p (i := 7) Q0 Q6 Q6 Q6 Q0 (hs.only Q2) (fun w hs => Yl.sub_ Q0 Q0 Q7) ?_
      replace hs := Sat.boxow (l := ([([] : Str), ([120] : Str)] : List Str)) (hs.sel (D := [box b64 _ _]) Q2) rfl rfl (by decide) (ownL_mk_flat (lit_str Q0))
      try simp only [List.cons_append, List.nil_append] at hs
      refine WA.calld (i := 10) hs (T := 93) (b := b_) (c := c) Q2 (fun _ hs => hs.only Q2) Q6 Q0 Q0 (Yc.func Q0 fn28) (c_spec_l1Str c b_ (⟨[([] : Str), ([120] : Str)], some ⟨b64, 0, none⟩, 2⟩ : Sl Str) _ (Apart.own (s := (⟨[([] : Str), ([120] : Str)], some ⟨b64, 0, none⟩, 2⟩ : Sl Str)) (F := [b64]) hs Q2) (by exact Nat.succ_pos _) (hs.cur Q1) (Apart.now hb_c hs)) ?_
      clear hs; intro v w ho hR hs
      obtain ⟨x67, rfl, hokx67, hx67, hf67⟩ := hR
      clear ho hf67
      replace hx67 : x67 ∈ ([([] : Str), ([120] : Str)] : List Str) := hx67
      have hn67 := mem_len 1 hx67 Q0
      refine WA.p (i := 11) Q0 Q6 Q6 Q6 Q0 (hs.only Q2) (fun w hs => Yl.build bt84 Q0 Q4) ?_
      refine WA.r (i := 12) Q6 Q0 Q0 (Yr.buildSlice hs sll37 Q0 Q0 Q0 Q4 Q0) (by rintro _ w ⟨b68, rfl, hb, hs⟩; exact hs.only Q2) ?_
      clear hs; rintro _ w ⟨b68, rfl, hb, hs⟩; clear hb
      replace hs := Sat.nilsl (α := TAttr) hs
      replace hs := PNode.join (⟨x65, x67, (x66 - 1), ⟨[], none, 0⟩⟩ : PNode) (hs.sel (D := [ow (⟨[], none, 0⟩ : (Sl TAttr)) []]) Q2) (by first | exact (Flat.any hokx65) | (refine Ph.old ?_ hs; assumption) ) (by first | exact (Flat.any hokx67) | (refine Ph.old ?_ hs; assumption) ) (by first | exact trivial | (refine Ph.old ?_ hs; assumption) | exact (show WfI ((x66 - 1)) from ⟨by omega, by omega⟩))
      try simp only [List.cons_append, List.nil_append] at hs
      refine WA.r (i := 13) Q6 Q0 Q0 (Yr.appendE (s := x2.nodes) (F := K3_0) (u := (⟨x65, x67, (x66 - 1), ⟨[], none, 0⟩⟩ : PNode)) (G := []) hs elt37 Q2 Q0 Q0 (hs.box_cells Q1) (by first | (unfold maxLen; omega) | omega | ((try simp only [lsz, strsz, List.length_map, PCache.lg, TCache.size, PPolicy.lg, TPolicy.size, List.length_cons, List.length_nil] at *); first | (unfold maxLen; omega) | omega)) (by first | (unfold maxLen; omega) | omega | ((try simp only [lsz, strsz, List.length_map, PCache.lg, TCache.size, PPolicy.lg, TPolicy.size, List.length_cons, List.length_nil] at *); first | (unfold maxLen; omega) | omega))) (by rintro _ w ⟨s69, F69, rfl, hl69, hs⟩; exact hs.only Q2) ?_
      clear hs; rintro _ w ⟨s69, F69, rfl, hl69, hs⟩
      refine WA.p (i := 14) Q0 Q6 Q6 Q6 Q0 (hs.only Q2) (fun w hs => Yl.fieldAddr fa40_0 Q0) ?_
      refine WA.s (i := 15) Q6 Q0 (Yr.storeB hs Q0 Q0 Q0 Q5 Q3 Q0 (by exact szf37)) (by rintro _ w hs; exact hs.only Q2) ?_
      clear hs; rintro _ w hs
      refine WA.done Q6 ?_
      refine At.blocknormal ?_
      refine At.then_ ?_
      refine WC.seq ?_
      refine WL.p Q0 (Yl.loadAB agg40 Q0 hs Q1 Q0 Q0) ?_
      refine WL.s (Yr.storeB hs Q0 Q0 Q0 Q5 Q3 Q0 (by exact szf40)) ?_
      clear hs; rintro _ w hs
      refine WL.next ?_
      refine WC.ret ?_
      refine fin1c rfl agg40 Q0 hs Q1 Q0 ?_
      obtain ⟨Fj70, hs⟩ : ∃ F, Sat _ _ _ (ow (⟨s69, x2.opn⟩ : PBuilder) F :: _) := ⟨_, PBuilder.join (⟨s69, x2.opn⟩ : PBuilder) (hs.sel (D := [ow s69 F69, ow x2.opn K3_1]) Q2) ⟩
      try simp only [List.cons_append, List.nil_append] at hs
      refine RetD.mk hs Q1 ?_
      refine ⟨(⟨s69, x2.opn⟩ : PBuilder), rfl, trivial, ?_, ?_⟩
      ·
       repeat' apply And.intro
       all_goals (try dsimp only)
       all_goals first | trivial | assumption | omega | ((try simp only [List.length_append, List.length_cons, List.length_nil, lsz_app, lsz_one, lsz_cons, lsz_nil, TAddr.size, TResponse.size, TRequest.size, TPolicy.size, TEntry.size, TCache.size, strsz, TLine.size, TSent.size, TServer.size, TFile.size, List.map_append, List.map_cons, List.map_nil, PServer.lg, PToken.lg, TToken.size, PNode.lg, TNode.size, TAttr.size, PBuilder.lg, TBuilder.size, TTokenizer.size, List.length_take, List.length_drop, PPolicy.lg, PCache.lg, hl69] at *); first | omega | assumption)
      ·
       exact hs.freshD (x := (⟨s69, x2.opn⟩ : PBuilder)) (F := Fj70) Q2
    ·
     replace hs := Sat.boxow (l := ([([112] : Str), ([] : Str), ([81] : Str)] : List Str)) (hs.sel (D := [box b50 _ _]) Q2) rfl rfl (by decide) (ownL_mk_flat (lit_str Q0))
     try simp only [List.cons_append, List.nil_append] at hs
     refine WI.calld (i := 4) hs (T := 93) (b := b_) (c := c) Q2 (fun _ hs => hs.only Q2) Q0 Q0 (Yc.func Q0 fn28) (c_spec_l1Str c b_ (⟨[([112] : Str), ([] : Str), ([81] : Str)], some ⟨b50, 0, none⟩, 3⟩ : Sl Str) _ (Apart.own (s := (⟨[([112] : Str), ([] : Str), ([81] : Str)], some ⟨b50, 0, none⟩, 3⟩ : Sl Str)) (F := [b50]) hs Q2) (by exact Nat.succ_pos _) (hs.cur Q1) (Apart.now hb_c hs)) ?_
     clear hs; intro v w ho hR hs
     obtain ⟨x71, rfl, hokx71, hx71, hf71⟩ := hR
     clear ho hf71
     replace hx71 : x71 ∈ ([([112] : Str), ([] : Str), ([81] : Str)] : List Str) := hx71
     have hn71 := mem_len 1 hx71 Q0
     refine WA.three (i := 1) (j := 6) (k := 9) Q6 ?_ ?_ ?_
     ·
      refine WI.r (i := 1) Q0 Q0 (Yl.yr (Yl.loadB sca37 Q0 hs Q1 Q0)) (by rintro _ _ ⟨rfl, rfl⟩; exact hs.only Q2) ?_
      rintro _ _ ⟨rfl, rfl⟩
      refine WA.two (i := 6) (j := 9) Q6 ?_ ?_
      ·
       refine WI.calld (i := 6) hs (T := 93) (b := b_) (c := c) Q2 (fun _ hs => hs.only Q2) Q0 Q0 (Yc.func Q0 fn46) (c_spec_l1Below c b_ _ _ (hs.cur Q1) (Apart.now hb_c hs)) ?_
       clear hs; intro v w ho hR hs
       obtain ⟨x72, rfl, hokx72, hx72, hf72⟩ := hR
       clear ho hf72
       replace hx72 : 0 ≤ x72 ∧ x72 < 3 := ⟨hx72.1, hx72.2.2 (by decide)⟩
       refine WA.p (i := 7) Q0 Q6 Q6 Q6 Q0 (hs.only Q2) (fun w hs => Yl.sub_ Q0 Q0 Q7) ?_
       refine WA.r (i := 9) Q6 Q0 Q0 (Yr.buildSlice hs sll48 Q0 Q0 Q0 Q4 Q0) (by rintro _ w ⟨b73, rfl, hb, hs⟩; exact hs.only Q2) ?_
       clear hs; rintro _ w ⟨b73, rfl, hb, hs⟩; clear hb
       replace hs := Sat.boxow (l := ([([] : Str), ([120] : Str)] : List Str)) (hs.sel (D := [box b73 _ _]) Q2) rfl rfl (by decide) (ownL_mk_flat (lit_str Q0))
       try simp only [List.cons_append, List.nil_append] at hs
       refine WA.calld (i := 10) hs (T := 93) (b := b_) (c := c) Q2 (fun _ hs => hs.only Q2) Q6 Q0 Q0 (Yc.func Q0 fn28) (c_spec_l1Str c b_ (⟨[([] : Str), ([120] : Str)], some ⟨b73, 0, none⟩, 2⟩ : Sl Str) _ (Apart.own (s := (⟨[([] : Str), ([120] : Str)], some ⟨b73, 0, none⟩, 2⟩ : Sl Str)) (F := [b73]) hs Q2) (by exact Nat.succ_pos _) (hs.cur Q1) (Apart.now hb_c hs)) ?_
       clear hs; intro v w ho hR hs
       obtain ⟨x74, rfl, hokx74, hx74, hf74⟩ := hR
       clear ho hf74
       replace hx74 : x74 ∈ ([([] : Str), ([120] : Str)] : List Str) := hx74
       have hn74 := mem_len 1 hx74 Q0
       refine WA.p (i := 11) Q0 Q6 Q6 Q6 Q0 (hs.only Q2) (fun w hs => Yl.build bt84 Q0 Q4) ?_
       refine WA.r (i := 12) Q6 Q0 Q0 (Yr.buildSlice hs sll37 Q0 Q0 Q0 Q4 Q0) (by rintro _ w ⟨b75, rfl, hb, hs⟩; exact hs.only Q2) ?_
       clear hs; rintro _ w ⟨b75, rfl, hb, hs⟩; clear hb
       replace hs := Sat.nilsl (α := TAttr) hs
       replace hs := PNode.join (⟨x71, x74, (x72 - 1), ⟨[], none, 0⟩⟩ : PNode) (hs.sel (D := [ow (⟨[], none, 0⟩ : (Sl TAttr)) []]) Q2) (by first | exact (Flat.any hokx71) | (refine Ph.old ?_ hs; assumption) ) (by first | exact (Flat.any hokx74) | (refine Ph.old ?_ hs; assumption) ) (by first | exact trivial | (refine Ph.old ?_ hs; assumption) | exact (show WfI ((x72 - 1)) from ⟨by omega, by omega⟩))
       try simp only [List.cons_append, List.nil_append] at hs
       refine WA.r (i := 13) Q6 Q0 Q0 (Yr.appendE (s := x2.nodes) (F := K3_0) (u := (⟨x71, x74, (x72 - 1), ⟨[], none, 0⟩⟩ : PNode)) (G := []) hs elt37 Q2 Q0 Q0 (hs.box_cells Q1) (by first | (unfold maxLen; omega) | omega | ((try simp only [lsz, strsz, List.length_map, PCache.lg, TCache.size, PPolicy.lg, TPolicy.size, List.length_cons, List.length_nil] at *); first | (unfold maxLen; omega) | omega)) (by first | (unfold maxLen; omega) | omega | ((try simp only [lsz, strsz, List.length_map, PCache.lg, TCache.size, PPolicy.lg, TPolicy.size, List.length_cons, List.length_nil] at *); first | (unfold maxLen; omega) | omega))) (by rintro _ w ⟨s76, F76, rfl, hl76, hs⟩; exact hs.only Q2) ?_
       clear hs; rintro _ w ⟨s76, F76, rfl, hl76, hs⟩
       refine WA.p (i := 14) Q0 Q6 Q6 Q6 Q0 (hs.only Q2) (fun w hs => Yl.fieldAddr fa40_0 Q0) ?_
       refine WA.s (i := 15) Q6 Q0 (Yr.storeB hs Q0 Q0 Q0 Q5 Q3 Q0 (by exact szf37)) (by rintro _ w hs; exact hs.only Q2) ?_
       clear hs; rintro _ w hs
       refine WA.done Q6 ?_
       refine At.blocknormal ?_
       refine At.then_ ?_
       refine WC.seq ?_
       refine WL.p Q0 (Yl.loadAB agg40 Q0 hs Q1 Q0 Q0) ?_
       refine WL.s (Yr.storeB hs Q0 Q0 Q0 Q5 Q3 Q0 (by exact szf40)) ?_
       clear hs; rintro _ w hs
       refine WL.next ?_
       refine WC.ret ?_
       refine fin1c rfl agg40 Q0 hs Q1 Q0 ?_
       obtain ⟨Fj77, hs⟩ : ∃ F, Sat _ _ _ (ow (⟨s76, x2.opn⟩ : PBuilder) F :: _) := ⟨_, PBuilder.join (⟨s76, x2.opn⟩ : PBuilder) (hs.sel (D := [ow s76 F76, ow x2.opn K3_1]) Q2) ⟩
       try simp only [List.cons_append, List.nil_append] at hs
       refine RetD.mk hs Q1 ?_
       refine ⟨(⟨s76, x2.opn⟩ : PBuilder), rfl, trivial, ?_, ?_⟩
       ·
        repeat' apply And.intro
        all_goals (try dsimp only)
        all_goals first | trivial | assumption | omega | ((try simp only [List.length_append, List.length_cons, List.length_nil, lsz_app, lsz_one, lsz_cons, lsz_nil, TAddr.size, TResponse.size, TRequest.size, TPolicy.size, TEntry.size, TCache.size, strsz, TLine.size, TSent.size, TServer.size, TFile.size, List.map_append, List.map_cons, List.map_nil, PServer.lg, PToken.lg, TToken.size, PNode.lg, TNode.size, TAttr.size, PBuilder.lg, TBuilder.size, TTokenizer.size, List.length_take, List.length_drop, PPolicy.lg, PCache.lg, hl76] at *); first | omega | assumption)
       ·
        exact hs.freshD (x := (⟨s76, x2.opn⟩ : PBuilder)) (F := Fj77) Q2
      ·
       refine WI.r (i := 9) Q0 Q0 (Yr.buildSlice hs sll48 Q0 Q0 Q0 Q4 Q0) (by rintro _ w ⟨b78, rfl, hb, hs⟩; exact hs.only Q2) ?_
       clear hs; rintro _ w ⟨b78, rfl, hb, hs⟩; clear hb
       refine WA.calld (i := 6) hs (T := 93) (b := b_) (c := c) Q2 (fun _ hs => hs.only Q2) Q6 Q0 Q0 (Yc.func Q0 fn46) (c_spec_l1Below c b_ _ _ (hs.cur Q1) (Apart.now hb_c hs)) ?_
       clear hs; intro v w ho hR hs
       obtain ⟨x79, rfl, hokx79, hx79, hf79⟩ := hR
       clear ho hf79
       replace hx79 : 0 ≤ x79 ∧ x79 < 3 := ⟨hx79.1, hx79.2.2 (by decide)⟩
       refine WA.p (i := 7) Q0 Q6 Q6 Q6 Q0 (hs.only Q2) (fun w hs => Yl.sub_ Q0 Q0 Q7) ?_
       replace hs := Sat.boxow (l := ([([] : Str), ([120] : Str)] : List Str)) (hs.sel (D := [box b78 _ _]) Q2) rfl rfl (by decide) (ownL_mk_flat (lit_str Q0))
       try simp only [List.cons_append, List.nil_append] at hs
       refine WA.calld (i := 10) hs (T := 93) (b := b_) (c := c) Q2 (fun _ hs => hs.only Q2) Q6 Q0 Q0 (Yc.func Q0 fn28) (c_spec_l1Str c b_ (⟨[([] : Str), ([120] : Str)], some ⟨b78, 0, none⟩, 2⟩ : Sl Str) _ (Apart.own (s := (⟨[([] : Str), ([120] : Str)], some ⟨b78, 0, none⟩, 2⟩ : Sl Str)) (F := [b78]) hs Q2) (by exact Nat.succ_pos _) (hs.cur Q1) (Apart.now hb_c hs)) ?_
       clear hs; intro v w ho hR hs
       obtain ⟨x80, rfl, hokx80, hx80, hf80⟩ := hR
       clear ho hf80
       replace hx80 : x80 ∈ ([([] : Str), ([120] : Str)] : List Str) := hx80
       have hn80 := mem_len 1 hx80 Q0
       refine WA.p (i := 11) Q0 Q6 Q6 Q6 Q0 (hs.only Q2) (fun w hs => Yl.build bt84 Q0 Q4) ?_
       refine WA.r (i := 12) Q6 Q0 Q0 (Yr.buildSlice hs sll37 Q0 Q0 Q0 Q4 Q0) (by rintro _ w ⟨b81, rfl, hb, hs⟩; exact hs.only Q2) ?_
       clear hs; rintro _ w ⟨b81, rfl, hb, hs⟩; clear hb
       replace hs := Sat.nilsl (α := TAttr) hs
       replace hs := PNode.join (⟨x71, x80, (x79 - 1), ⟨[], none, 0⟩⟩ : PNode) (hs.sel (D := [ow (⟨[], none, 0⟩ : (Sl TAttr)) []]) Q2) (by first | exact (Flat.any hokx71) | (refine Ph.old ?_ hs; assumption) ) (by first | exact (Flat.any hokx80) | (refine Ph.old ?_ hs; assumption) ) (by first | exact trivial | (refine Ph.old ?_ hs; assumption) | exact (show WfI ((x79 - 1)) from ⟨by omega, by omega⟩))
       try simp only [List.cons_append, List.nil_append] at hs
       refine WA.r (i := 13) Q6 Q0 Q0 (Yr.appendE (s := x2.nodes) (F := K3_0) (u := (⟨x71, x80, (x79 - 1), ⟨[], none, 0⟩⟩ : PNode)) (G := []) hs elt37 Q2 Q0 Q0 (hs.box_cells Q1) (by first | (unfold maxLen; omega) | omega | ((try simp only [lsz, strsz, List.length_map, PCache.lg, TCache.size, PPolicy.lg, TPolicy.size, List.length_cons, List.length_nil] at *); first | (unfold maxLen; omega) | omega)) (by first | (unfold maxLen; omega) | omega | ((try simp only [lsz, strsz, List.length_map, PCache.lg, TCache.size, PPolicy.lg, TPolicy.size, List.length_cons, List.length_nil] at *); first | (unfold maxLen; omega) | omega))) (by rintro _ w ⟨s82, F82, rfl, hl82, hs⟩; exact hs.only Q2) ?_
       clear hs; rintro _ w ⟨s82, F82, rfl, hl82, hs⟩
       refine WA.p (i := 14) Q0 Q6 Q6 Q6 Q0 (hs.only Q2) (fun w hs => Yl.fieldAddr fa40_0 Q0) ?_
       refine WA.s (i := 15) Q6 Q0 (Yr.storeB hs Q0 Q0 Q0 Q5 Q3 Q0 (by exact szf37)) (by rintro _ w hs; exact hs.only Q2) ?_
       clear hs; rintro _ w hs
       refine WA.done Q6 ?_
       refine At.blocknormal ?_
       refine At.then_ ?_
       refine WC.seq ?_
       refine WL.p Q0 (Yl.loadAB agg40 Q0 hs Q1 Q0 Q0) ?_
       refine WL.s (Yr.storeB hs Q0 Q0 Q0 Q5 Q3 Q0 (by exact szf40)) ?_
       clear hs; rintro _ w hs
       refine WL.next ?_
       refine WC.ret ?_
       refine fin1c rfl agg40 Q0 hs Q1 Q0 ?_
       obtain ⟨Fj83, hs⟩ : ∃ F, Sat _ _ _ (ow (⟨s82, x2.opn⟩ : PBuilder) F :: _) := ⟨_, PBuilder.join (⟨s82, x2.opn⟩ : PBuilder) (hs.sel (D := [ow s82 F82, ow x2.opn K3_1]) Q2) ⟩
       try simp only [List.cons_append, List.nil_append] at hs
       refine RetD.mk hs Q1 ?_
       refine ⟨(⟨s82, x2.opn⟩ : PBuilder), rfl, trivial, ?_, ?_⟩
       ·
        repeat' apply And.intro
        all_goals (try dsimp only)
        all_goals first | trivial | assumption | omega | ((try simp only [List.length_append, List.length_cons, List.length_nil, lsz_app, lsz_one, lsz_cons, lsz_nil, TAddr.size, TResponse.size, TRequest.size, TPolicy.size, TEntry.size, TCache.size, strsz, TLine.size, TSent.size, TServer.size, TFile.size, List.map_append, List.map_cons, List.map_nil, PServer.lg, PToken.lg, TToken.size, PNode.lg, TNode.size, TAttr.size, PBuilder.lg, TBuilder.size, TTokenizer.size, List.length_take, List.length_drop, PPolicy.lg, PCache.lg, hl82] at *); first | omega | assumption)
       ·
        exact hs.freshD (x := (⟨s82, x2.opn⟩ : PBuilder)) (F := Fj83) Q2
     ·
      refine WI.calld (i := 6) hs (T := 93) (b := b_) (c := c) Q2 (fun _ hs => hs.only Q2) Q0 Q0 (Yc.func Q0 fn46) (c_spec_l1Below c b_ _ _ (hs.cur Q1) (Apart.now hb_c hs)) ?_
      clear hs; intro v w ho hR hs
      obtain ⟨x84, rfl, hokx84, hx84, hf84⟩ := hR
      clear ho hf84
      replace hx84 : 0 ≤ x84 ∧ x84 < 3 := ⟨hx84.1, hx84.2.2 (by decide)⟩
      refine WA.p (i := 7) Q0 Q6 Q6 Q6 Q0 (hs.only Q2) (fun w hs => Yl.sub_ Q0 Q0 Q7) ?_
      refine WA.two (i := 1) (j := 9) Q6 ?_ ?_
      ·
       refine WI.r (i := 1) Q0 Q0 (Yl.yr (Yl.loadB sca37 Q0 hs Q1 Q0)) (by rintro _ _ ⟨rfl, rfl⟩; exact hs.only Q2) ?_
       rintro _ _ ⟨rfl, rfl⟩
       refine WA.r (i := 9) Q6 Q0 Q0 (Yr.buildSlice hs sll48 Q0 Q0 Q0 Q4 Q0) (by rintro _ w ⟨b85, rfl, hb, hs⟩; exact hs.only Q2) ?_
       clear hs; rintro _ w ⟨b85, rfl, hb, hs⟩; clear hb
       replace hs := Sat.boxow (l := ([([] : Str), ([120] : Str)] : List Str)) (hs.sel (D := [box b85 _ _]) Q2) rfl rfl (by decide) (ownL_mk_flat (lit_str Q0))
       try simp only [List.cons_append, List.nil_append] at hs
       refine WA.calld (i := 10) hs (T := 93) (b := b_) (c := c) Q2 (fun _ hs => hs.only Q2) Q6 Q0 Q0 (Yc.func Q0 fn28) (c_spec_l1Str c b_ (⟨[([] : Str), ([120] : Str)], some ⟨b85, 0, none⟩, 2⟩ : Sl Str) _ (Apart.own (s := (⟨[([] : Str), ([120] : Str)], some ⟨b85, 0, none⟩, 2⟩ : Sl Str)) (F := [b85]) hs Q2) (by exact Nat.succ_pos _) (hs.cur Q1) (Apart.now hb_c hs)) ?_
       clear hs; intro v w ho hR hs
       obtain ⟨x86, rfl, hokx86, hx86, hf86⟩ := hR
       clear ho hf86
       replace hx86 : x86 ∈ ([([] : Str), ([120] : Str)] : List Str) := hx86
       have hn86 := mem_len 1 hx86 Q0
       refine WA.p (i := 11) Q0 Q6 Q6 Q6 Q0 (hs.only Q2) (fun w hs => Yl.build bt84 Q0 Q4) ?_
       refine WA.r (i := 12) Q6 Q0 Q0 (Yr.buildSlice hs sll37 Q0 Q0 Q0 Q4 Q0) (by rintro _ w ⟨b87, rfl, hb, hs⟩; exact hs.only Q2) ?_
       clear hs; rintro _ w ⟨b87, rfl, hb, hs⟩; clear hb
       replace hs := Sat.nilsl (α := TAttr) hs
       replace hs := PNode.join (⟨x71, x86, (x84 - 1), ⟨[], none, 0⟩⟩ : PNode) (hs.sel (D := [ow (⟨[], none, 0⟩ : (Sl TAttr)) []]) Q2) (by first | exact (Flat.any hokx71) | (refine Ph.old ?_ hs; assumption) ) (by first | exact (Flat.any hokx86) | (refine Ph.old ?_ hs; assumption) ) (by first | exact trivial | (refine Ph.old ?_ hs; assumption) | exact (show WfI ((x84 - 1)) from ⟨by omega, by omega⟩))
       try simp only [List.cons_append, List.nil_append] at hs
       refine WA.r (i := 13) Q6 Q0 Q0 (Yr.appendE (s := x2.nodes) (F := K3_0) (u := (⟨x71, x86, (x84 - 1), ⟨[], none, 0⟩⟩ : PNode)) (G := []) hs elt37 Q2 Q0 Q0 (hs.box_cells Q1) (by first | (unfold maxLen; omega) | omega | ((try simp only [lsz, strsz, List.length_map, PCache.lg, TCache.size, PPolicy.lg, TPolicy.size, List.length_cons, List.length_nil] at *); first | (unfold maxLen; omega) | omega)) (by first | (unfold maxLen; omega) | omega | ((try simp only [lsz, strsz, List.length_map, PCache.lg, TCache.size, PPolicy.lg, TPolicy.size, List.length_cons, List.length_nil] at *); first | (unfold maxLen; omega) | omega))) (by rintro _ w ⟨s88, F88, rfl, hl88, hs⟩; exact hs.only Q2) ?_
       clear hs; rintro _ w ⟨s88, F88, rfl, hl88, hs⟩
       refine WA.p (i := 14) Q0 Q6 Q6 Q6 Q0 (hs.only Q2) (fun w hs => Yl.fieldAddr fa40_0 Q0) ?_
       refine WA.s (i := 15) Q6 Q0 (Yr.storeB hs Q0 Q0 Q0 Q5 Q3 Q0 (by exact szf37)) (by rintro _ w hs; exact hs.only Q2) ?_
       clear hs; rintro _ w hs
       refine WA.done Q6 ?_
       refine At.blocknormal ?_
       refine At.then_ ?_
       refine WC.seq ?_
       refine WL.p Q0 (Yl.loadAB agg40 Q0 hs Q1 Q0 Q0) ?_
       refine WL.s (Yr.storeB hs Q0 Q0 Q0 Q5 Q3 Q0 (by exact szf40)) ?_
       clear hs; rintro _ w hs
       refine WL.next ?_
       refine WC.ret ?_
       refine fin1c rfl agg40 Q0 hs Q1 Q0 ?_
       obtain ⟨Fj89, hs⟩ : ∃ F, Sat _ _ _ (ow (⟨s88, x2.opn⟩ : PBuilder) F :: _) := ⟨_, PBuilder.join (⟨s88, x2.opn⟩ : PBuilder) (hs.sel (D := [ow s88 F88, ow x2.opn K3_1]) Q2) ⟩
       try simp only [List.cons_append, List.nil_append] at hs
       refine RetD.mk hs Q1 ?_
       refine ⟨(⟨s88, x2.opn⟩ : PBuilder), rfl, trivial, ?_, ?_⟩
       ·
        repeat' apply And.intro
        all_goals (try dsimp only)
        all_goals first | trivial | assumption | omega | ((try simp only [List.length_append, List.length_cons, List.length_nil, lsz_app, lsz_one, lsz_cons, lsz_nil, TAddr.size, TResponse.size, TRequest.size, TPolicy.size, TEntry.size, TCache.size, strsz, TLine.size, TSent.size, TServer.size, TFile.size, List.map_append, List.map_cons, List.map_nil, PServer.lg, PToken.lg, TToken.size, PNode.lg, TNode.size, TAttr.size, PBuilder.lg, TBuilder.size, TTokenizer.size, List.length_take, List.length_drop, PPolicy.lg, PCache.lg, hl88] at *); first | omega | assumption)
       ·
        exact hs.freshD (x := (⟨s88, x2.opn⟩ : PBuilder)) (F := Fj89) Q2
      ·
       refine WI.r (i := 9) Q0 Q0 (Yr.buildSlice hs sll48 Q0 Q0 Q0 Q4 Q0) (by rintro _ w ⟨b90, rfl, hb, hs⟩; exact hs.only Q2) ?_
       clear hs; rintro _ w ⟨b90, rfl, hb, hs⟩; clear hb
       refine WA.two (i := 1) (j := 10) Q6 ?_ ?_
       ·
        refine WI.r (i := 1) Q0 Q0 (Yl.yr (Yl.loadB sca37 Q0 hs Q1 Q0)) (by rintro _ _ ⟨rfl, rfl⟩; exact hs.only Q2) ?_
        rintro _ _ ⟨rfl, rfl⟩
        replace hs := Sat.boxow (l := ([([] : Str), ([120] : Str)] : List Str)) (hs.sel (D := [box b90 _ _]) Q2) rfl rfl (by decide) (ownL_mk_flat (lit_str Q0))
        try simp only [List.cons_append, List.nil_append] at hs
        refine WA.calld (i := 10) hs (T := 93) (b := b_) (c := c) Q2 (fun _ hs => hs.only Q2) Q6 Q0 Q0 (Yc.func Q0 fn28) (c_spec_l1Str c b_ (⟨[([] : Str), ([120] : Str)], some ⟨b90, 0, none⟩, 2⟩ : Sl Str) _ (Apart.own (s := (⟨[([] : Str), ([120] : Str)], some ⟨b90, 0, none⟩, 2⟩ : Sl Str)) (F := [b90]) hs Q2) (by exact Nat.succ_pos _) (hs.cur Q1) (Apart.now hb_c hs)) ?_
        clear hs; intro v w ho hR hs
        obtain ⟨x91, rfl, hokx91, hx91, hf91⟩ := hR
        clear ho hf91
        replace hx91 : x91 ∈ ([([] : Str), ([120] : Str)] : List Str) := hx91
        have hn91 := mem_len 1 hx91 Q0
        refine WA.p (i := 11) Q0 Q6 Q6 Q6 Q0 (hs.only Q2) (fun w hs => Yl.build bt84 Q0 Q4) ?_
        refine WA.r (i := 12) Q6 Q0 Q0 (Yr.buildSlice hs sll37 Q0 Q0 Q0 Q4 Q0) (by rintro _ w ⟨b92, rfl, hb, hs⟩; exact hs.only Q2) ?_
        clear hs; rintro _ w ⟨b92, rfl, hb, hs⟩; clear hb
        replace hs := Sat.nilsl (α := TAttr) hs
        replace hs := PNode.join (⟨x71, x91, (x84 - 1), ⟨[], none, 0⟩⟩ : PNode) (hs.sel (D := [ow (⟨[], none, 0⟩ : (Sl TAttr)) []]) Q2) (by first | exact (Flat.any hokx71) | (refine Ph.old ?_ hs; assumption) ) (by first | exact (Flat.any hokx91) | (refine Ph.old ?_ hs; assumption) ) (by first | exact trivial | (refine Ph.old ?_ hs; assumption) | exact (show WfI ((x84 - 1)) from ⟨by omega, by omega⟩))
        try simp only [List.cons_append, List.nil_append] at hs
        refine WA.r (i := 13) Q6 Q0 Q0 (Yr.appendE (s := x2.nodes) (F := K3_0) (u := (⟨x71, x91, (x84 - 1), ⟨[], none, 0⟩⟩ : PNode)) (G := []) hs elt37 Q2 Q0 Q0 (hs.box_cells Q1) (by first | (unfold maxLen; omega) | omega | ((try simp only [lsz, strsz, List.length_map, PCache.lg, TCache.size, PPolicy.lg, TPolicy.size, List.length_cons, List.length_nil] at *); first | (unfold maxLen; omega) | omega)) (by first | (unfold maxLen; omega) | omega | ((try simp only [lsz, strsz, List.length_map, PCache.lg, TCache.size, PPolicy.lg, TPolicy.size, List.length_cons, List.length_nil] at *); first | (unfold maxLen; omega) | omega))) (by rintro _ w ⟨s93, F93, rfl, hl93, hs⟩; exact hs.only Q2) ?_
        clear hs; rintro _ w ⟨s93, F93, rfl, hl93, hs⟩
        refine WA.p (i := 14) Q0 Q6 Q6 Q6 Q0 (hs.only Q2) (fun w hs => Yl.fieldAddr fa40_0 Q0) ?_
        refine WA.s (i := 15) Q6 Q0 (Yr.storeB hs Q0 Q0 Q0 Q5 Q3 Q0 (by exact szf37)) (by rintro _ w hs; exact hs.only Q2) ?_
        clear hs; rintro _ w hs
        refine WA.done Q6 ?_
        refine At.blocknormal ?_
        refine At.then_ ?_
        refine WC.seq ?_
        refine WL.p Q0 (Yl.loadAB agg40 Q0 hs Q1 Q0 Q0) ?_
        refine WL.s (Yr.storeB hs Q0 Q0 Q0 Q5 Q3 Q0 (by exact szf40)) ?_
        clear hs; rintro _ w hs
        refine WL.next ?_
        refine WC.ret ?_
        refine fin1c rfl agg40 Q0 hs Q1 Q0 ?_
        obtain ⟨Fj94, hs⟩ : ∃ F, Sat _ _ _ (ow (⟨s93, x2.opn⟩ : PBuilder) F :: _) := ⟨_, PBuilder.join (⟨s93, x2.opn⟩ : PBuilder) (hs.sel (D := [ow s93 F93, ow x2.opn K3_1]) Q2) ⟩
        try simp only [List.cons_append, List.nil_append] at hs
        refine RetD.mk hs Q1 ?_
        refine ⟨(⟨s93, x2.opn⟩ : PBuilder), rfl, trivial, ?_, ?_⟩
        ·
         repeat' apply And.intro
         all_goals (try dsimp only)
         all_goals first | trivial | assumption | omega | ((try simp only [List.length_append, List.length_cons, List.length_nil, lsz_app, lsz_one, lsz_cons, lsz_nil, TAddr.size, TResponse.size, TRequest.size, TPolicy.size, TEntry.size, TCache.size, strsz, TLine.size, TSent.size, TServer.size, TFile.size, List.map_append, List.map_cons, List.map_nil, PServer.lg, PToken.lg, TToken.size, PNode.lg, TNode.size, TAttr.size, PBuilder.lg, TBuilder.size, TTokenizer.size, List.length_take, List.length_drop, PPolicy.lg, PCache.lg, hl93] at *); first | omega | assumption)
        ·
         exact hs.freshD (x := (⟨s93, x2.opn⟩ : PBuilder)) (F := Fj94) Q2
       ·
        replace hs := Sat.boxow (l := ([([] : Str), ([120] : Str)] : List Str)) (hs.sel (D := [box b90 _ _]) Q2) rfl rfl (by decide) (ownL_mk_flat (lit_str Q0))
        try simp only [List.cons_append, List.nil_append] at hs
        refine WI.calld (i := 10) hs (T := 93) (b := b_) (c := c) Q2 (fun _ hs => hs.only Q2) Q0 Q0 (Yc.func Q0 fn28) (c_spec_l1Str c b_ (⟨[([] : Str), ([120] : Str)], some ⟨b90, 0, none⟩, 2⟩ : Sl Str) _ (Apart.own (s := (⟨[([] : Str), ([120] : Str)], some ⟨b90, 0, none⟩, 2⟩ : Sl Str)) (F := [b90]) hs Q2) (by exact Nat.succ_pos _) (hs.cur Q1) (Apart.now hb_c hs)) ?_
        clear hs; intro v w ho hR hs
        obtain ⟨x95, rfl, hokx95, hx95, hf95⟩ := hR
        clear ho hf95
        replace hx95 : x95 ∈ ([([] : Str), ([120] : Str)] : List Str) := hx95
        have hn95 := mem_len 1 hx95 Q0
        refine WA.p (i := 11) Q0 Q6 Q6 Q6 Q0 (hs.only Q2) (fun w hs => Yl.build bt84 Q0 Q4) ?_
        refine WA.dag' [(⟨1, 21, [], (fun _ v cs => v = Sl.v x2.nodes ∧ cs = [])⟩, []), (⟨12, 32, [], (fun _ v cs => ∃ b, v = .slice (some ⟨b, 0, none⟩) 1 1 ∧ cs = [box b 84 ((Ph.enc ((⟨x71, x95, (x84 - 1), ⟨[], none, 0⟩⟩ : PNode))))])⟩, [])] [false, false] [(0, _), (2, _), (3, _), (4, _), (5, _), (6, _), (7, _), (8, _), (9, _), (18, _), (19, _), (20, _), (22, _), (23, _), (24, _), (25, _), (26, _), (27, _), (28, _), (29, _), (30, _), (31, _)] ⟨by rfl, by rfl, by rfl, by rfl, by rfl, by rfl, by rfl, by rfl, by rfl, by rfl, by rfl, by rfl, by rfl, by rfl, by rfl, by rfl, by rfl, by rfl, by rfl, by rfl, by rfl, by rfl, trivial⟩ Q0 Q6 Q6 Q6 Q6 Q6 Q6 Q6 Q6 (fun _ hs => hs.only Q2) hs (fuel := 3) ⟨⟨local_const, ?_⟩, ⟨local_const, ?_⟩, trivial⟩ ?_
        ·
         clear hs
         intro w R hs
         simp only [List.cons_append, List.nil_append] at hs
         exact Gives.p' Q0 (Yl.loadB sca37 Q0 hs Q1 Q0) ⟨[], ⟨rfl, rfl⟩, hs⟩
        ·
         clear hs
         intro w R hs
         simp only [List.cons_append, List.nil_append] at hs
         exact Gives.rr' Q0 (Yr.buildSlice hs sll37 Q0 Q0 Q0 Q4 Q0) (fun _ _ ⟨b, hv, _, hs1⟩ => ⟨[box b 84 ((Ph.enc ((⟨x71, x95, (x84 - 1), ⟨[], none, 0⟩⟩ : PNode))))], ⟨b, hv, rfl⟩, hs1⟩)
        clear hs
        rintro _ _ ⟨rfl, rfl⟩
        rintro _ _ ⟨b97, rfl, rfl⟩
        intro w hs
        simp only [List.cons_append, List.nil_append, cond_true, cond_false] at hs
        replace hs := Sat.nilsl (α := TAttr) hs
        replace hs := PNode.join (⟨x71, x95, (x84 - 1), ⟨[], none, 0⟩⟩ : PNode) (hs.sel (D := [ow (⟨[], none, 0⟩ : (Sl TAttr)) []]) Q2) (by first | exact (Flat.any hokx71) | (refine Ph.old ?_ hs; assumption) ) (by first | exact (Flat.any hokx95) | (refine Ph.old ?_ hs; assumption) ) (by first | exact trivial | (refine Ph.old ?_ hs; assumption) | exact (show WfI ((x84 - 1)) from ⟨by omega, by omega⟩))
        try simp only [List.cons_append, List.nil_append] at hs
        refine WA.r (i := 13) Q6 Q0 Q0 (Yr.appendE (s := x2.nodes) (F := K3_0) (u := (⟨x71, x95, (x84 - 1), ⟨[], none, 0⟩⟩ : PNode)) (G := []) hs elt37 Q2 Q0 Q0 (hs.box_cells Q1) (by first | (unfold maxLen; omega) | omega | ((try simp only [lsz, strsz, List.length_map, PCache.lg, TCache.size, PPolicy.lg, TPolicy.size, List.length_cons, List.length_nil] at *); first | (unfold maxLen; omega) | omega)) (by first | (unfold maxLen; omega) | omega | ((try simp only [lsz, strsz, List.length_map, PCache.lg, TCache.size, PPolicy.lg, TPolicy.size, List.length_cons, List.length_nil] at *); first | (unfold maxLen; omega) | omega))) (by rintro _ w ⟨s98, F98, rfl, hl98, hs⟩; exact hs.only Q2) ?_
        clear hs; rintro _ w ⟨s98, F98, rfl, hl98, hs⟩
        refine WA.p (i := 14) Q0 Q6 Q6 Q6 Q0 (hs.only Q2) (fun w hs => Yl.fieldAddr fa40_0 Q0) ?_
        refine WA.s (i := 15) Q6 Q0 (Yr.storeB hs Q0 Q0 Q0 Q5 Q3 Q0 (by exact szf37)) (by rintro _ w hs; exact hs.only Q2) ?_
        clear hs; rintro _ w hs
        refine WA.done Q6 ?_
        refine At.blocknormal ?_
        refine At.then_ ?_
        refine WC.seq ?_
        refine WL.p Q0 (Yl.loadAB agg40 Q0 hs Q1 Q0 Q0) ?_
        refine WL.s (Yr.storeB hs Q0 Q0 Q0 Q5 Q3 Q0 (by exact szf40)) ?_
        clear hs; rintro _ w hs
        refine WL.next ?_
        refine WC.ret ?_
        refine fin1c rfl agg40 Q0 hs Q1 Q0 ?_
        obtain ⟨Fj99, hs⟩ : ∃ F, Sat _ _ _ (ow (⟨s98, x2.opn⟩ : PBuilder) F :: _) := ⟨_, PBuilder.join (⟨s98, x2.opn⟩ : PBuilder) (hs.sel (D := [ow s98 F98, ow x2.opn K3_1]) Q2) ⟩
        try simp only [List.cons_append, List.nil_append] at hs
        refine RetD.mk hs Q1 ?_
        refine ⟨(⟨s98, x2.opn⟩ : PBuilder), rfl, trivial, ?_, ?_⟩
        ·
         repeat' apply And.intro
         all_goals (try dsimp only)
         all_goals first | trivial | assumption | omega | ((try simp only [List.length_append, List.length_cons, List.length_nil, lsz_app, lsz_one, lsz_cons, lsz_nil, TAddr.size, TResponse.size, TRequest.size, TPolicy.size, TEntry.size, TCache.size, strsz, TLine.size, TSent.size, TServer.size, TFile.size, List.map_append, List.map_cons, List.map_nil, PServer.lg, PToken.lg, TToken.size, PNode.lg, TNode.size, TAttr.size, PBuilder.lg, TBuilder.size, TTokenizer.size, List.length_take, List.length_drop, PPolicy.lg, PCache.lg, hl98] at *); first | omega | assumption)
        ·
         exact hs.freshD (x := (⟨s98, x2.opn⟩ : PBuilder)) (F := Fj99) Q2
     ·
      refine WI.r (i := 9) Q0 Q0 (Yr.buildSlice hs sll48 Q0 Q0 Q0 Q4 Q0) (by rintro _ w ⟨b100, rfl, hb, hs⟩; exact hs.only Q2) ?_
      clear hs; rintro _ w ⟨b100, rfl, hb, hs⟩; clear hb
      refine WA.two (i := 1) (j := 6) Q6 ?_ ?_
      ·
       refine WI.r (i := 1) Q0 Q0 (Yl.yr (Yl.loadB sca37 Q0 hs Q1 Q0)) (by rintro _ _ ⟨rfl, rfl⟩; exact hs.only Q2) ?_
       rintro _ _ ⟨rfl, rfl⟩
       refine WA.calld (i := 6) hs (T := 93) (b := b_) (c := c) Q2 (fun _ hs => hs.only Q2) Q6 Q0 Q0 (Yc.func Q0 fn46) (c_spec_l1Below c b_ _ _ (hs.cur Q1) (Apart.now hb_c hs)) ?_
       clear hs; intro v w ho hR hs
       obtain ⟨x101, rfl, hokx101, hx101, hf101⟩ := hR
       clear ho hf101
       replace hx101 : 0 ≤ x101 ∧ x101 < 3 := ⟨hx101.1, hx101.2.2 (by decide)⟩
       refine WA.p (i := 7) Q0 Q6 Q6 Q6 Q0 (hs.only Q2) (fun w hs => Yl.sub_ Q0 Q0 Q7) ?_
       replace hs := Sat.boxow (l := ([([] : Str), ([120] : Str)] : List Str)) (hs.sel (D := [box b100 _ _]) Q2) rfl rfl (by decide) (ownL_mk_flat (lit_str Q0))
       try simp only [List.cons_append, List.nil_append] at hs
       refine WA.calld (i := 10) hs (T := 93) (b := b_) (c := c) Q2 (fun _ hs => hs.only Q2) Q6 Q0 Q0 (Yc.func Q0 fn28) (c_spec_l1Str c b_ (⟨[([] : Str), ([120] : Str)], some ⟨b100, 0, none⟩, 2⟩ : Sl Str) _ (Apart.own (s := (⟨[([] : Str), ([120] : Str)], some ⟨b100, 0, none⟩, 2⟩ : Sl Str)) (F := [b100]) hs Q2) (by exact Nat.succ_pos _) (hs.cur Q1) (Apart.now hb_c hs)) ?_
       clear hs; intro v w ho hR hs
       obtain ⟨x102, rfl, hokx102, hx102, hf102⟩ := hR
       clear ho hf102
       replace hx102 : x102 ∈ ([([] : Str), ([120] : Str)] : List Str) := hx102
       have hn102 := mem_len 1 hx102 Q0
       refine WA.p (i := 11) Q0 Q6 Q6 Q6 Q0 (hs.only Q2) (fun w hs => Yl.build bt84 Q0 Q4) ?_
       refine WA.r (i := 12) Q6 Q0 Q0 (Yr.buildSlice hs sll37 Q0 Q0 Q0 Q4 Q0) (by rintro _ w ⟨b103, rfl, hb, hs⟩; exact hs.only Q2) ?_
       clear hs; rintro _ w ⟨b103, rfl, hb, hs⟩; clear hb
       replace hs := Sat.nilsl (α := TAttr) hs
       replace hs := PNode.join (⟨x71, x102, (x101 - 1), ⟨[], none, 0⟩⟩ : PNode) (hs.sel (D := [ow (⟨[], none, 0⟩ : (Sl TAttr)) []]) Q2) (by first | exact (Flat.any hokx71) | (refine Ph.old ?_ hs; assumption) ) (by first | exact (Flat.any hokx102) | (refine Ph.old ?_ hs; assumption) ) (by first | exact trivial | (refine Ph.old ?_ hs; assumption) | exact (show WfI ((x101 - 1)) from ⟨by omega, by omega⟩))
       try simp only [List.cons_append, List.nil_append] at hs
       refine WA.r (i := 13) Q6 Q0 Q0 (Yr.appendE (s := x2.nodes) (F := K3_0) (u := (⟨x71, x102, (x101 - 1), ⟨[], none, 0⟩⟩ : PNode)) (G := []) hs elt37 Q2 Q0 Q0 (hs.box_cells Q1) (by first | (unfold maxLen; omega) | omega | ((try simp only [lsz, strsz, List.length_map, PCache.lg, TCache.size, PPolicy.lg, TPolicy.size, List.length_cons, List.length_nil] at *); first | (unfold maxLen; omega) | omega)) (by first | (unfold maxLen; omega) | omega | ((try simp only [lsz, strsz, List.length_map, PCache.lg, TCache.size, PPolicy.lg, TPolicy.size, List.length_cons, List.length_nil] at *); first | (unfold maxLen; omega) | omega))) (by rintro _ w ⟨s104, F104, rfl, hl104, hs⟩; exact hs.only Q2) ?_
       clear hs; rintro _ w ⟨s104, F104, rfl, hl104, hs⟩
       refine WA.p (i := 14) Q0 Q6 Q6 Q6 Q0 (hs.only Q2) (fun w hs => Yl.fieldAddr fa40_0 Q0) ?_
       refine WA.s (i := 15) Q6 Q0 (Yr.storeB hs Q0 Q0 Q0 Q5 Q3 Q0 (by exact szf37)) (by rintro _ w hs; exact hs.only Q2) ?_
       clear hs; rintro _ w hs
       refine WA.done Q6 ?_
       refine At.blocknormal ?_
       refine At.then_ ?_
       refine WC.seq ?_
       refine WL.p Q0 (Yl.loadAB agg40 Q0 hs Q1 Q0 Q0) ?_
       refine WL.s (Yr.storeB hs Q0 Q0 Q0 Q5 Q3 Q0 (by exact szf40)) ?_
       clear hs; rintro _ w hs
       refine WL.next ?_
       refine WC.ret ?_
       refine fin1c rfl agg40 Q0 hs Q1 Q0 ?_
       obtain ⟨Fj105, hs⟩ : ∃ F, Sat _ _ _ (ow (⟨s104, x2.opn⟩ : PBuilder) F :: _) := ⟨_, PBuilder.join (⟨s104, x2.opn⟩ : PBuilder) (hs.sel (D := [ow s104 F104, ow x2.opn K3_1]) Q2) ⟩
       try simp only [List.cons_append, List.nil_append] at hs
       refine RetD.mk hs Q1 ?_
       refine ⟨(⟨s104, x2.opn⟩ : PBuilder), rfl, trivial, ?_, ?_⟩
       ·
        repeat' apply And.intro
        all_goals (try dsimp only)
        all_goals first | trivial | assumption | omega | ((try simp only [List.length_append, List.length_cons, List.length_nil, lsz_app, lsz_one, lsz_cons, lsz_nil, TAddr.size, TResponse.size, TRequest.size, TPolicy.size, TEntry.size, TCache.size, strsz, TLine.size, TSent.size, TServer.size, TFile.size, List.map_append, List.map_cons, List.map_nil, PServer.lg, PToken.lg, TToken.size, PNode.lg, TNode.size, TAttr.size, PBuilder.lg, TBuilder.size, TTokenizer.size, List.length_take, List.length_drop, PPolicy.lg, PCache.lg, hl104] at *); first | omega | assumption)
       ·
        exact hs.freshD (x := (⟨s104, x2.opn⟩ : PBuilder)) (F := Fj105) Q2
      ·
       refine WI.calld (i := 6) hs (T := 93) (b := b_) (c := c) Q2 (fun _ hs => hs.only Q2) Q0 Q0 (Yc.func Q0 fn46) (c_spec_l1Below c b_ _ _ (hs.cur Q1) (Apart.now hb_c hs)) ?_
       clear hs; intro v w ho hR hs
       obtain ⟨x106, rfl, hokx106, hx106, hf106⟩ := hR
       clear ho hf106
       replace hx106 : 0 ≤ x106 ∧ x106 < 3 := ⟨hx106.1, hx106.2.2 (by decide)⟩
       refine WA.p (i := 7) Q0 Q6 Q6 Q6 Q0 (hs.only Q2) (fun w hs => Yl.sub_ Q0 Q0 Q7) ?_
       refine WA.two (i := 1) (j := 10) Q6 ?_ ?_
       ·
        refine WI.r (i := 1) Q0 Q0 (Yl.yr (Yl.loadB sca37 Q0 hs Q1 Q0)) (by rintro _ _ ⟨rfl, rfl⟩; exact hs.only Q2) ?_
        rintro _ _ ⟨rfl, rfl⟩
        replace hs := Sat.boxow (l := ([([] : Str), ([120] : Str)] : List Str)) (hs.sel (D := [box b100 _ _]) Q2) rfl rfl (by decide) (ownL_mk_flat (lit_str Q0))
        try simp only [List.cons_append, List.nil_append] at hs
        refine WA.calld (i := 10) hs (T := 93) (b := b_) (c := c) Q2 (fun _ hs => hs.only Q2) Q6 Q0 Q0 (Yc.func Q0 fn28) (c_spec_l1Str c b_ (⟨[([] : Str), ([120] : Str)], some ⟨b100, 0, none⟩, 2⟩ : Sl Str) _ (Apart.own (s := (⟨[([] : Str), ([120] : Str)], some ⟨b100, 0, none⟩, 2⟩ : Sl Str)) (F := [b100]) hs Q2) (by exact Nat.succ_pos _) (hs.cur Q1) (Apart.now hb_c hs)) ?_
        clear hs; intro v w ho hR hs
        obtain ⟨x107, rfl, hokx107, hx107, hf107⟩ := hR
        clear ho hf107
        replace hx107 : x107 ∈ ([([] : Str), ([120] : Str)] : List Str) := hx107
        have hn107 := mem_len 1 hx107 Q0
        refine WA.p (i := 11) Q0 Q6 Q6 Q6 Q0 (hs.only Q2) (fun w hs => Yl.build bt84 Q0 Q4) ?_
        refine WA.r (i := 12) Q6 Q0 Q0 (Yr.buildSlice hs sll37 Q0 Q0 Q0 Q4 Q0) (by rintro _ w ⟨b108, rfl, hb, hs⟩; exact hs.only Q2) ?_
        clear hs; rintro _ w ⟨b108, rfl, hb, hs⟩; clear hb
        replace hs := Sat.nilsl (α := TAttr) hs
        replace hs := PNode.join (⟨x71, x107, (x106 - 1), ⟨[], none, 0⟩⟩ : PNode) (hs.sel (D := [ow (⟨[], none, 0⟩ : (Sl TAttr)) []]) Q2) (by first | exact (Flat.any hokx71) | (refine Ph.old ?_ hs; assumption) ) (by first | exact (Flat.any hokx107) | (refine Ph.old ?_ hs; assumption) ) (by first | exact trivial | (refine Ph.old ?_ hs; assumption) | exact (show WfI ((x106 - 1)) from ⟨by omega, by omega⟩))
        try simp only [List.cons_append, List.nil_append] at hs
        refine WA.r (i := 13) Q6 Q0 Q0 (Yr.appendE (s := x2.nodes) (F := K3_0) (u := (⟨x71, x107, (x106 - 1), ⟨[], none, 0⟩⟩ : PNode)) (G := []) hs elt37 Q2 Q0 Q0 (hs.box_cells Q1) (by first | (unfold maxLen; omega) | omega | ((try simp only [lsz, strsz, List.length_map, PCache.lg, TCache.size, PPolicy.lg, TPolicy.size, List.length_cons, List.length_nil] at *); first | (unfold maxLen; omega) | omega)) (by first | (unfold maxLen; omega) | omega | ((try simp only [lsz, strsz, List.length_map, PCache.lg, TCache.size, PPolicy.lg, TPolicy.size, List.length_cons, List.length_nil] at *); first | (unfold maxLen; omega) | omega))) (by rintro _ w ⟨s109, F109, rfl, hl109, hs⟩; exact hs.only Q2) ?_
        clear hs; rintro _ w ⟨s109, F109, rfl, hl109, hs⟩
        refine WA.p (i := 14) Q0 Q6 Q6 Q6 Q0 (hs.only Q2) (fun w hs => Yl.fieldAddr fa40_0 Q0) ?_
        refine WA.s (i := 15) Q6 Q0 (Yr.storeB hs Q0 Q0 Q0 Q5 Q3 Q0 (by exact szf37)) (by rintro _ w hs; exact hs.only Q2) ?_
        clear hs; rintro _ w hs
        refine WA.done Q6 ?_
        refine At.blocknormal ?_
        refine At.then_ ?_
        refine WC.seq ?_
        refine WL.p Q0 (Yl.loadAB agg40 Q0 hs Q1 Q0 Q0) ?_
        refine WL.s (Yr.storeB hs Q0 Q0 Q0 Q5 Q3 Q0 (by exact szf40)) ?_
        clear hs; rintro _ w hs
        refine WL.next ?_
        refine WC.ret ?_
        refine fin1c rfl agg40 Q0 hs Q1 Q0 ?_
        obtain ⟨Fj110, hs⟩ : ∃ F, Sat _ _ _ (ow (⟨s109, x2.opn⟩ : PBuilder) F :: _) := ⟨_, PBuilder.join (⟨s109, x2.opn⟩ : PBuilder) (hs.sel (D := [ow s109 F109, ow x2.opn K3_1]) Q2) ⟩
        try simp only [List.cons_append, List.nil_append] at hs
        refine RetD.mk hs Q1 ?_
        refine ⟨(⟨s109, x2.opn⟩ : PBuilder), rfl, trivial, ?_, ?_⟩
        ·
         repeat' apply And.intro
         all_goals (try dsimp only)
         all_goals first | trivial | assumption | omega | ((try simp only [List.length_append, List.length_cons, List.length_nil, lsz_app, lsz_one, lsz_cons, lsz_nil, TAddr.size, TResponse.size, TRequest.size, TPolicy.size, TEntry.size, TCache.size, strsz, TLine.size, TSent.size, TServer.size, TFile.size, List.map_append, List.map_cons, List.map_nil, PServer.lg, PToken.lg, TToken.size, PNode.lg, TNode.size, TAttr.size, PBuilder.lg, TBuilder.size, TTokenizer.size, List.length_take, List.length_drop, PPolicy.lg, PCache.lg, hl109] at *); first | omega | assumption)
        ·
         exact hs.freshD (x := (⟨s109, x2.opn⟩ : PBuilder)) (F := Fj110) Q2
       ·
        replace hs := Sat.boxow (l := ([([] : Str), ([120] : Str)] : List Str)) (hs.sel (D := [box b100 _ _]) Q2) rfl rfl (by decide) (ownL_mk_flat (lit_str Q0))
        try simp only [List.cons_append, List.nil_append] at hs
        refine WI.calld (i := 10) hs (T := 93) (b := b_) (c := c) Q2 (fun _ hs => hs.only Q2) Q0 Q0 (Yc.func Q0 fn28) (c_spec_l1Str c b_ (⟨[([] : Str), ([120] : Str)], some ⟨b100, 0, none⟩, 2⟩ : Sl Str) _ (Apart.own (s := (⟨[([] : Str), ([120] : Str)], some ⟨b100, 0, none⟩, 2⟩ : Sl Str)) (F := [b100]) hs Q2) (by exact Nat.succ_pos _) (hs.cur Q1) (Apart.now hb_c hs)) ?_
        clear hs; intro v w ho hR hs
        obtain ⟨x111, rfl, hokx111, hx111, hf111⟩ := hR
        clear ho hf111
        replace hx111 : x111 ∈ ([([] : Str), ([120] : Str)] : List Str) := hx111
        have hn111 := mem_len 1 hx111 Q0
        refine WA.p (i := 11) Q0 Q6 Q6 Q6 Q0 (hs.only Q2) (fun w hs => Yl.build bt84 Q0 Q4) ?_
        refine WA.dag' [(⟨1, 21, [], (fun _ v cs => v = Sl.v x2.nodes ∧ cs = [])⟩, []), (⟨12, 32, [], (fun _ v cs => ∃ b, v = .slice (some ⟨b, 0, none⟩) 1 1 ∧ cs = [box b 84 ((Ph.enc ((⟨x71, x111, (x106 - 1), ⟨[], none, 0⟩⟩ : PNode))))])⟩, [])] [false, false] [(0, _), (2, _), (3, _), (4, _), (5, _), (6, _), (7, _), (8, _), (9, _), (18, _), (19, _), (20, _), (22, _), (23, _), (24, _), (25, _), (26, _), (27, _), (28, _), (29, _), (30, _), (31, _)] ⟨by rfl, by rfl, by rfl, by rfl, by rfl, by rfl, by rfl, by rfl, by rfl, by rfl, by rfl, by rfl, by rfl, by rfl, by rfl, by rfl, by rfl, by rfl, by rfl, by rfl, by rfl, by rfl, trivial⟩ Q0 Q6 Q6 Q6 Q6 Q6 Q6 Q6 Q6 (fun _ hs => hs.only Q2) hs (fuel := 3) ⟨⟨local_const, ?_⟩, ⟨local_const, ?_⟩, trivial⟩ ?_
        ·
         clear hs
         intro w R hs
         simp only [List.cons_append, List.nil_append] at hs
         exact Gives.p' Q0 (Yl.loadB sca37 Q0 hs Q1 Q0) ⟨[], ⟨rfl, rfl⟩, hs⟩
        ·
         clear hs
         intro w R hs
         simp only [List.cons_append, List.nil_append] at hs
         exact Gives.rr' Q0 (Yr.buildSlice hs sll37 Q0 Q0 Q0 Q4 Q0) (fun _ _ ⟨b, hv, _, hs1⟩ => ⟨[box b 84 ((Ph.enc ((⟨x71, x111, (x106 - 1), ⟨[], none, 0⟩⟩ : PNode))))], ⟨b, hv, rfl⟩, hs1⟩)
        clear hs
        rintro _ _ ⟨rfl, rfl⟩
        rintro _ _ ⟨b113, rfl, rfl⟩
        intro w hs
        simp only [List.cons_append, List.nil_append, cond_true, cond_false] at hs
        replace hs := Sat.nilsl (α := TAttr) hs
        replace hs := PNode.join (⟨x71, x111, (x106 - 1), ⟨[], none, 0⟩⟩ : PNode) (hs.sel (D := [ow (⟨[], none, 0⟩ : (Sl TAttr)) []]) Q2) (by first | exact (Flat.any hokx71) | (refine Ph.old ?_ hs; assumption) ) (by first | exact (Flat.any hokx111) | (refine Ph.old ?_ hs; assumption) ) (by first | exact trivial | (refine Ph.old ?_ hs; assumption) | exact (show WfI ((x106 - 1)) from ⟨by omega, by omega⟩))
        try simp only [List.cons_append, List.nil_append] at hs
        refine WA.r (i := 13) Q6 Q0 Q0 (Yr.appendE (s := x2.nodes) (F := K3_0) (u := (⟨x71, x111, (x106 - 1), ⟨[], none, 0⟩⟩ : PNode)) (G := []) hs elt37 Q2 Q0 Q0 (hs.box_cells Q1) (by first | (unfold maxLen; omega) | omega | ((try simp only [lsz, strsz, List.length_map, PCache.lg, TCache.size, PPolicy.lg, TPolicy.size, List.length_cons, List.length_nil] at *); first | (unfold maxLen; omega) | omega)) (by first | (unfold maxLen; omega) | omega | ((try simp only [lsz, strsz, List.length_map, PCache.lg, TCache.size, PPolicy.lg, TPolicy.size, List.length_cons, List.length_nil] at *); first | (unfold maxLen; omega) | omega))) (by rintro _ w ⟨s114, F114, rfl, hl114, hs⟩; exact hs.only Q2) ?_
        clear hs; rintro _ w ⟨s114, F114, rfl, hl114, hs⟩
        refine WA.p (i := 14) Q0 Q6 Q6 Q6 Q0 (hs.only Q2) (fun w hs => Yl.fieldAddr fa40_0 Q0) ?_
        refine WA.s (i := 15) Q6 Q0 (Yr.storeB hs Q0 Q0 Q0 Q5 Q3 Q0 (by exact szf37)) (by rintro _ w hs; exact hs.only Q2) ?_
        clear hs; rintro _ w hs
        refine WA.done Q6 ?_
        refine At.blocknormal ?_
        refine At.then_ ?_
        refine WC.seq ?_
        refine WL.p Q0 (Yl.loadAB agg40 Q0 hs Q1 Q0 Q0) ?_
        refine WL.s (Yr.storeB hs Q0 Q0 Q0 Q5 Q3 Q0 (by exact szf40)) ?_
        clear hs; rintro _ w hs
        refine WL.next ?_
        refine WC.ret ?_
        refine fin1c rfl agg40 Q0 hs Q1 Q0 ?_
        obtain ⟨Fj115, hs⟩ : ∃ F, Sat _ _ _ (ow (⟨s114, x2.opn⟩ : PBuilder) F :: _) := ⟨_, PBuilder.join (⟨s114, x2.opn⟩ : PBuilder) (hs.sel (D := [ow s114 F114, ow x2.opn K3_1]) Q2) ⟩
        try simp only [List.cons_append, List.nil_append] at hs
        refine RetD.mk hs Q1 ?_
        refine ⟨(⟨s114, x2.opn⟩ : PBuilder), rfl, trivial, ?_, ?_⟩
        ·
         repeat' apply And.intro
         all_goals (try dsimp only)
         all_goals first | trivial | assumption | omega | ((try simp only [List.length_append, List.length_cons, List.length_nil, lsz_app, lsz_one, lsz_cons, lsz_nil, TAddr.size, TResponse.size, TRequest.size, TPolicy.size, TEntry.size, TCache.size, strsz, TLine.size, TSent.size, TServer.size, TFile.size, List.map_append, List.map_cons, List.map_nil, PServer.lg, PToken.lg, TToken.size, PNode.lg, TNode.size, TAttr.size, PBuilder.lg, TBuilder.size, TTokenizer.size, List.length_take, List.length_drop, PPolicy.lg, PCache.lg, hl114] at *); first | omega | assumption)
        ·
         exact hs.freshD (x := (⟨s114, x2.opn⟩ : PBuilder)) (F := Fj115) Q2
    ·
     refine WI.r (i := 9) Q0 Q0 (Yr.buildSlice hs sll48 Q0 Q0 Q0 Q4 Q0) (by rintro _ w ⟨b116, rfl, hb, hs⟩; exact hs.only Q2) ?_
     clear hs; rintro _ w ⟨b116, rfl, hb, hs⟩; clear hb
     refine WA.two (i := 1) (j := 4) Q6 ?_ ?_
     ·
      refine WI.r (i := 1) Q0 Q0 (Yl.yr (Yl.loadB sca37 Q0 hs Q1 Q0)) (by rintro _ _ ⟨rfl, rfl⟩; exact hs.only Q2) ?_
      rintro _ _ ⟨rfl, rfl⟩
      replace hs := Sat.boxow (l := ([([112] : Str), ([] : Str), ([81] : Str)] : List Str)) (hs.sel (D := [box b50 _ _]) Q2) rfl rfl (by decide) (ownL_mk_flat (lit_str Q0))
      try simp only [List.cons_append, List.nil_append] at hs
      refine WA.calld (i := 4) hs (T := 93) (b := b_) (c := c) Q2 (fun _ hs => hs.only Q2) Q6 Q0 Q0 (Yc.func Q0 fn28) (c_spec_l1Str c b_ (⟨[([112] : Str), ([] : Str), ([81] : Str)], some ⟨b50, 0, none⟩, 3⟩ : Sl Str) _ (Apart.own (s := (⟨[([112] : Str), ([] : Str), ([81] : Str)], some ⟨b50, 0, none⟩, 3⟩ : Sl Str)) (F := [b50]) hs Q2) (by exact Nat.succ_pos _) (hs.cur Q1) (Apart.now hb_c hs)) ?_
      clear hs; intro v w ho hR hs
      obtain ⟨x117, rfl, hokx117, hx117, hf117⟩ := hR
      clear ho hf117
      replace hx117 : x117 ∈ ([([112] : Str), ([] : Str), ([81] : Str)] : List Str) := hx117
      have hn117 := mem_len 1 hx117 Q0
      refine WA.calld (i := 6) hs (T := 93) (b := b_) (c := c) Q2 (fun _ hs => hs.only Q2) Q6 Q0 Q0 (Yc.func Q0 fn46) (c_spec_l1Below c b_ _ _ (hs.cur Q1) (Apart.now hb_c hs)) ?_
      clear hs; intro v w ho hR hs
      obtain ⟨x118, rfl, hokx118, hx118, hf118⟩ := hR
      clear ho hf118
      replace hx118 : 0 ≤ x118 ∧ x118 < 3 := ⟨hx118.1, hx118.2.2 (by decide)⟩
      refine WA.p (i := 7) Q0 Q6 Q6 Q6 Q0 (hs.only Q2) (fun w hs => Yl.sub_ Q0 Q0 Q7) ?_
      replace hs := Sat.boxow (l := ([([] : Str), ([120] : Str)] : List Str)) (hs.sel (D := [box b116 _ _]) Q2) rfl rfl (by decide) (ownL_mk_flat (lit_str Q0))
      try simp only [List.cons_append, List.nil_append] at hs
      refine WA.calld (i := 10) hs (T := 93) (b := b_) (c := c) Q2 (fun _ hs => hs.only Q2) Q6 Q0 Q0 (Yc.func Q0 fn28) (c_spec_l1Str c b_ (⟨[([] : Str), ([120] : Str)], some ⟨b116, 0, none⟩, 2⟩ : Sl Str) _ (Apart.own (s := (⟨[([] : Str), ([120] : Str)], some ⟨b116, 0, none⟩, 2⟩ : Sl Str)) (F := [b116]) hs Q2) (by exact Nat.succ_pos _) (hs.cur Q1) (Apart.now hb_c hs)) ?_
      clear hs; intro v w ho hR hs
      obtain ⟨x119, rfl, hokx119, hx119, hf119⟩ := hR
      clear ho hf119
      replace hx119 : x119 ∈ ([([] : Str), ([120] : Str)] : List Str) := hx119
      have hn119 := mem_len 1 hx119 Q0
      refine WA.p (i := 11) Q0 Q6 Q6 Q6 Q0 (hs.only Q2) (fun w hs => Yl.build bt84 Q0 Q4) ?_
      refine WA.r (i := 12) Q6 Q0 Q0 (Yr.buildSlice hs sll37 Q0 Q0 Q0 Q4 Q0) (by rintro _ w ⟨b120, rfl, hb, hs⟩; exact hs.only Q2) ?_
      clear hs; rintro _ w ⟨b120, rfl, hb, hs⟩; clear hb
      replace hs := Sat.nilsl (α := TAttr) hs
      replace hs := PNode.join (⟨x117, x119, (x118 - 1), ⟨[], none, 0⟩⟩ : PNode) (hs.sel (D := [ow (⟨[], none, 0⟩ : (Sl TAttr)) []]) Q2) (by first | exact (Flat.any hokx117) | (refine Ph.old ?_ hs; assumption) ) (by first | exact (Flat.any hokx119) | (refine Ph.old ?_ hs; assumption) ) (by first | exact trivial | (refine Ph.old ?_ hs; assumption) | exact (show WfI ((x118 - 1)) from ⟨by omega, by omega⟩))
      try simp only [List.cons_append, List.nil_append] at hs
      refine WA.r (i := 13) Q6 Q0 Q0 (Yr.appendE (s := x2.nodes) (F := K3_0) (u := (⟨x117, x119, (x118 - 1), ⟨[], none, 0⟩⟩ : PNode)) (G := []) hs elt37 Q2 Q0 Q0 (hs.box_cells Q1) (by first | (unfold maxLen; omega) | omega | ((try simp only [lsz, strsz, List.length_map, PCache.lg, TCache.size, PPolicy.lg, TPolicy.size, List.length_cons, List.length_nil] at *); first | (unfold maxLen; omega) | omega)) (by first | (unfold maxLen; omega) | omega | ((try simp only [lsz, strsz, List.length_map, PCache.lg, TCache.size, PPolicy.lg, TPolicy.size, List.length_cons, List.length_nil] at *); first | (unfold maxLen; omega) | omega))) (by rintro _ w ⟨s121, F121, rfl, hl121, hs⟩; exact hs.only Q2) ?_
      clear hs; rintro _ w ⟨s121, F121, rfl, hl121, hs⟩
      refine WA.p (i := 14) Q0 Q6 Q6 Q6 Q0 (hs.only Q2) (fun w hs => Yl.fieldAddr fa40_0 Q0) ?_
      refine WA.s (i := 15) Q6 Q0 (Yr.storeB hs Q0 Q0 Q0 Q5 Q3 Q0 (by exact szf37)) (by rintro _ w hs; exact hs.only Q2) ?_
      clear hs; rintro _ w hs
      refine WA.done Q6 ?_
      refine At.blocknormal ?_
      refine At.then_ ?_
      refine WC.seq ?_
      refine WL.p Q0 (Yl.loadAB agg40 Q0 hs Q1 Q0 Q0) ?_
      refine WL.s (Yr.storeB hs Q0 Q0 Q0 Q5 Q3 Q0 (by exact szf40)) ?_
      clear hs; rintro _ w hs
      refine WL.next ?_
      refine WC.ret ?_
      refine fin1c rfl agg40 Q0 hs Q1 Q0 ?_
      obtain ⟨Fj122, hs⟩ : ∃ F, Sat _ _ _ (ow (⟨s121, x2.opn⟩ : PBuilder) F :: _) := ⟨_, PBuilder.join (⟨s121, x2.opn⟩ : PBuilder) (hs.sel (D := [ow s121 F121, ow x2.opn K3_1]) Q2) ⟩
      try simp only [List.cons_append, List.nil_append] at hs
      refine RetD.mk hs Q1 ?_
      refine ⟨(⟨s121, x2.opn⟩ : PBuilder), rfl, trivial, ?_, ?_⟩
      ·
       repeat' apply And.intro
       all_goals (try dsimp only)
       all_goals first | trivial | assumption | omega | ((try simp only [List.length_append, List.length_cons, List.length_nil, lsz_app, lsz_one, lsz_cons, lsz_nil, TAddr.size, TResponse.size, TRequest.size, TPolicy.size, TEntry.size, TCache.size, strsz, TLine.size, TSent.size, TServer.size, TFile.size, List.map_append, List.map_cons, List.map_nil, PServer.lg, PToken.lg, TToken.size, PNode.lg, TNode.size, TAttr.size, PBuilder.lg, TBuilder.size, TTokenizer.size, List.length_take, List.length_drop, PPolicy.lg, PCache.lg, hl121] at *); first | omega | assumption)
      ·
       exact hs.freshD (x := (⟨s121, x2.opn⟩ : PBuilder)) (F := Fj122) Q2
     ·
      replace hs := Sat.boxow (l := ([([112] : Str), ([] : Str), ([81] : Str)] : List Str)) (hs.sel (D := [box b50 _ _]) Q2) rfl rfl (by decide) (ownL_mk_flat (lit_str Q0))
      try simp only [List.cons_append, List.nil_append] at hs
      refine WI.calld (i := 4) hs (T := 93) (b := b_) (c := c) Q2 (fun _ hs => hs.only Q2) Q0 Q0 (Yc.func Q0 fn28) (c_spec_l1Str c b_ (⟨[([112] : Str), ([] : Str), ([81] : Str)], some ⟨b50, 0, none⟩, 3⟩ : Sl Str) _ (Apart.own (s := (⟨[([112] : Str), ([] : Str), ([81] : Str)], some ⟨b50, 0, none⟩, 3⟩ : Sl Str)) (F := [b50]) hs Q2) (by exact Nat.succ_pos _) (hs.cur Q1) (Apart.now hb_c hs)) ?_
      clear hs; intro v w ho hR hs
      obtain ⟨x123, rfl, hokx123, hx123, hf123⟩ := hR
      clear ho hf123
      replace hx123 : x123 ∈ ([([112] : Str), ([] : Str), ([81] : Str)] : List Str) := hx123
      have hn123 := mem_len 1 hx123 Q0
      refine WA.two (i := 1) (j := 6) Q6 ?_ ?_
      ·
       refine WI.r (i := 1) Q0 Q0 (Yl.yr (Yl.loadB sca37 Q0 hs Q1 Q0)) (by rintro _ _ ⟨rfl, rfl⟩; exact hs.only Q2) ?_
       rintro _ _ ⟨rfl, rfl⟩
       refine WA.calld (i := 6) hs (T := 93) (b := b_) (c := c) Q2 (fun _ hs => hs.only Q2) Q6 Q0 Q0 (Yc.func Q0 fn46) (c_spec_l1Below c b_ _ _ (hs.cur Q1) (Apart.now hb_c hs)) ?_
       clear hs; intro v w ho hR hs
       obtain ⟨x124, rfl, hokx124, hx124, hf124⟩ := hR
       clear ho hf124
       replace hx124 : 0 ≤ x124 ∧ x124 < 3 := ⟨hx124.1, hx124.2.2 (by decide)⟩
       refine WA.p (i := 7) Q0 Q6 Q6 Q6 Q0 (hs.only Q2) (fun w hs => Yl.sub_ Q0 Q0 Q7) ?_
       replace hs := Sat.boxow (l := ([([] : Str), ([120] : Str)] : List Str)) (hs.sel (D := [box b116 _ _]) Q2) rfl rfl (by decide) (ownL_mk_flat (lit_str Q0))
       try simp only [List.cons_append, List.nil_append] at hs
       refine WA.calld (i := 10) hs (T := 93) (b := b_) (c := c) Q2 (fun _ hs => hs.only Q2) Q6 Q0 Q0 (Yc.func Q0 fn28) (c_spec_l1Str c b_ (⟨[([] : Str), ([120] : Str)], some ⟨b116, 0, none⟩, 2⟩ : Sl Str) _ (Apart.own (s := (⟨[([] : Str), ([120] : Str)], some ⟨b116, 0, none⟩, 2⟩ : Sl Str)) (F := [b116]) hs Q2) (by exact Nat.succ_pos _) (hs.cur Q1) (Apart.now hb_c hs)) ?_
       clear hs; intro v w ho hR hs
       obtain ⟨x125, rfl, hokx125, hx125, hf125⟩ := hR
       clear ho hf125
       replace hx125 : x125 ∈ ([([] : Str), ([120] : Str)] : List Str) := hx125
       have hn125 := mem_len 1 hx125 Q0
       refine WA.p (i := 11) Q0 Q6 Q6 Q6 Q0 (hs.only Q2) (fun w hs => Yl.build bt84 Q0 Q4) ?_
       refine WA.r (i := 12) Q6 Q0 Q0 (Yr.buildSlice hs sll37 Q0 Q0 Q0 Q4 Q0) (by rintro _ w ⟨b126, rfl, hb, hs⟩; exact hs.only Q2) ?_
       clear hs; rintro _ w ⟨b126, rfl, hb, hs⟩; clear hb
       replace hs := Sat.nilsl (α := TAttr) hs
       replace hs := PNode.join (⟨x123, x125, (x124 - 1), ⟨[], none, 0⟩⟩ : PNode) (hs.sel (D := [ow (⟨[], none, 0⟩ : (Sl TAttr)) []]) Q2) (by first | exact (Flat.any hokx123) | (refine Ph.old ?_ hs; assumption) ) (by first | exact (Flat.any hokx125) | (refine Ph.old ?_ hs; assumption) ) (by first | exact trivial | (refine Ph.old ?_ hs; assumption) | exact (show WfI ((x124 - 1)) from ⟨by omega, by omega⟩))
       try simp only [List.cons_append, List.nil_append] at hs
       refine WA.r (i := 13) Q6 Q0 Q0 (Yr.appendE (s := x2.nodes) (F := K3_0) (u := (⟨x123, x125, (x124 - 1), ⟨[], none, 0⟩⟩ : PNode)) (G := []) hs elt37 Q2 Q0 Q0 (hs.box_cells Q1) (by first | (unfold maxLen; omega) | omega | ((try simp only [lsz, strsz, List.length_map, PCache.lg, TCache.size, PPolicy.lg, TPolicy.size, List.length_cons, List.length_nil] at *); first | (unfold maxLen; omega) | omega)) (by first | (unfold maxLen; omega) | omega | ((try simp only [lsz, strsz, List.length_map, PCache.lg, TCache.size, PPolicy.lg, TPolicy.size, List.length_cons, List.length_nil] at *); first | (unfold maxLen; omega) | omega))) (by rintro _ w ⟨s127, F127, rfl, hl127, hs⟩; exact hs.only Q2) ?_
       clear hs; rintro _ w ⟨s127, F127, rfl, hl127, hs⟩
       refine WA.p (i := 14) Q0 Q6 Q6 Q6 Q0 (hs.only Q2) (fun w hs => Yl.fieldAddr fa40_0 Q0) ?_
       refine WA.s (i := 15) Q6 Q0 (Yr.storeB hs Q0 Q0 Q0 Q5 Q3 Q0 (by exact szf37)) (by rintro _ w hs; exact hs.only Q2) ?_
       clear hs; rintro _ w hs
       refine WA.done Q6 ?_
       refine At.blocknormal ?_
       refine At.then_ ?_
       refine WC.seq ?_
       refine WL.p Q0 (Yl.loadAB agg40 Q0 hs Q1 Q0 Q0) ?_
       refine WL.s (Yr.storeB hs Q0 Q0 Q0 Q5 Q3 Q0 (by exact szf40)) ?_
       clear hs; rintro _ w hs
       refine WL.next ?_
       refine WC.ret ?_
       refine fin1c rfl agg40 Q0 hs Q1 Q0 ?_
       obtain ⟨Fj128, hs⟩ : ∃ F, Sat _ _ _ (ow (⟨s127, x2.opn⟩ : PBuilder) F :: _) := ⟨_, PBuilder.join (⟨s127, x2.opn⟩ : PBuilder) (hs.sel (D := [ow s127 F127, ow x2.opn K3_1]) Q2) ⟩
       try simp only [List.cons_append, List.nil_append] at hs
       refine RetD.mk hs Q1 ?_
       refine ⟨(⟨s127, x2.opn⟩ : PBuilder), rfl, trivial, ?_, ?_⟩
       ·
        repeat' apply And.intro
        all_goals (try dsimp only)
        all_goals first | trivial | assumption | omega | ((try simp only [List.length_append, List.length_cons, List.length_nil, lsz_app, lsz_one, lsz_cons, lsz_nil, TAddr.size, TResponse.size, TRequest.size, TPolicy.size, TEntry.size, TCache.size, strsz, TLine.size, TSent.size, TServer.size, TFile.size, List.map_append, List.map_cons, List.map_nil, PServer.lg, PToken.lg, TToken.size, PNode.lg, TNode.size, TAttr.size, PBuilder.lg, TBuilder.size, TTokenizer.size, List.length_take, List.length_drop, PPolicy.lg, PCache.lg, hl127] at *); first | omega | assumption)
       ·
        exact hs.freshD (x := (⟨s127, x2.opn⟩ : PBuilder)) (F := Fj128) Q2
      ·
       refine WI.calld (i := 6) hs (T := 93) (b := b_) (c := c) Q2 (fun _ hs => hs.only Q2) Q0 Q0 (Yc.func Q0 fn46) (c_spec_l1Below c b_ _ _ (hs.cur Q1) (Apart.now hb_c hs)) ?_
       clear hs; intro v w ho hR hs
       obtain ⟨x129, rfl, hokx129, hx129, hf129⟩ := hR
       clear ho hf129
       replace hx129 : 0 ≤ x129 ∧ x129 < 3 := ⟨hx129.1, hx129.2.2 (by decide)⟩
       refine WA.p (i := 7) Q0 Q6 Q6 Q6 Q0 (hs.only Q2) (fun w hs => Yl.sub_ Q0 Q0 Q7) ?_
       refine WA.two (i := 1) (j := 10) Q6 ?_ ?_
       ·
        refine WI.r (i := 1) Q0 Q0 (Yl.yr (Yl.loadB sca37 Q0 hs Q1 Q0)) (by rintro _ _ ⟨rfl, rfl⟩; exact hs.only Q2) ?_
        rintro _ _ ⟨rfl, rfl⟩
        replace hs := Sat.boxow (l := ([([] : Str), ([120] : Str)] : List Str)) (hs.sel (D := [box b116 _ _]) Q2) rfl rfl (by decide) (ownL_mk_flat (lit_str Q0))
        try simp only [List.cons_append, List.nil_append] at hs
        refine WA.calld (i := 10) hs (T := 93) (b := b_) (c := c) Q2 (fun _ hs => hs.only Q2) Q6 Q0 Q0 (Yc.func Q0 fn28) (c_spec_l1Str c b_ (⟨[([] : Str), ([120] : Str)], some ⟨b116, 0, none⟩, 2⟩ : Sl Str) _ (Apart.own (s := (⟨[([] : Str), ([120] : Str)], some ⟨b116, 0, none⟩, 2⟩ : Sl Str)) (F := [b116]) hs Q2) (by exact Nat.succ_pos _) (hs.cur Q1) (Apart.now hb_c hs)) ?_
        clear hs; intro v w ho hR hs
        obtain ⟨x130, rfl, hokx130, hx130, hf130⟩ := hR
        clear ho hf130
        replace hx130 : x130 ∈ ([([] : Str), ([120] : Str)] : List Str) := hx130
        have hn130 := mem_len 1 hx130 Q0
        refine WA.p (i := 11) Q0 Q6 Q6 Q6 Q0 (hs.only Q2) (fun w hs => Yl.build bt84 Q0 Q4) ?_
        refine WA.r (i := 12) Q6 Q0 Q0 (Yr.buildSlice hs sll37 Q0 Q0 Q0 Q4 Q0) (by rintro _ w ⟨b131, rfl, hb, hs⟩; exact hs.only Q2) ?_
        clear hs; rintro _ w ⟨b131, rfl, hb, hs⟩; clear hb
        replace hs := Sat.nilsl (α := TAttr) hs
        replace hs := PNode.join (⟨x123, x130, (x129 - 1), ⟨[], none, 0⟩⟩ : PNode) (hs.sel (D := [ow (⟨[], none, 0⟩ : (Sl TAttr)) []]) Q2) (by first | exact (Flat.any hokx123) | (refine Ph.old ?_ hs; assumption) ) (by first | exact (Flat.any hokx130) | (refine Ph.old ?_ hs; assumption) ) (by first | exact trivial | (refine Ph.old ?_ hs; assumption) | exact (show WfI ((x129 - 1)) from ⟨by omega, by omega⟩))
        try simp only [List.cons_append, List.nil_append] at hs
        refine WA.r (i := 13) Q6 Q0 Q0 (Yr.appendE (s := x2.nodes) (F := K3_0) (u := (⟨x123, x130, (x129 - 1), ⟨[], none, 0⟩⟩ : PNode)) (G := []) hs elt37 Q2 Q0 Q0 (hs.box_cells Q1) (by first | (unfold maxLen; omega) | omega | ((try simp only [lsz, strsz, List.length_map, PCache.lg, TCache.size, PPolicy.lg, TPolicy.size, List.length_cons, List.length_nil] at *); first | (unfold maxLen; omega) | omega)) (by first | (unfold maxLen; omega) | omega | ((try simp only [lsz, strsz, List.length_map, PCache.lg, TCache.size, PPolicy.lg, TPolicy.size, List.length_cons, List.length_nil] at *); first | (unfold maxLen; omega) | omega))) (by rintro _ w ⟨s132, F132, rfl, hl132, hs⟩; exact hs.only Q2) ?_
        clear hs; rintro _ w ⟨s132, F132, rfl, hl132, hs⟩
        refine WA.p (i := 14) Q0 Q6 Q6 Q6 Q0 (hs.only Q2) (fun w hs => Yl.fieldAddr fa40_0 Q0) ?_
        refine WA.s (i := 15) Q6 Q0 (Yr.storeB hs Q0 Q0 Q0 Q5 Q3 Q0 (by exact szf37)) (by rintro _ w hs; exact hs.only Q2) ?_
        clear hs; rintro _ w hs
        refine WA.done Q6 ?_
        refine At.blocknormal ?_
        refine At.then_ ?_
        refine WC.seq ?_
        refine WL.p Q0 (Yl.loadAB agg40 Q0 hs Q1 Q0 Q0) ?_
        refine WL.s (Yr.storeB hs Q0 Q0 Q0 Q5 Q3 Q0 (by exact szf40)) ?_
        clear hs; rintro _ w hs
        refine WL.next ?_
        refine WC.ret ?_
        refine fin1c rfl agg40 Q0 hs Q1 Q0 ?_
        obtain ⟨Fj133, hs⟩ : ∃ F, Sat _ _ _ (ow (⟨s132, x2.opn⟩ : PBuilder) F :: _) := ⟨_, PBuilder.join (⟨s132, x2.opn⟩ : PBuilder) (hs.sel (D := [ow s132 F132, ow x2.opn K3_1]) Q2) ⟩
        try simp only [List.cons_append, List.nil_append] at hs
        refine RetD.mk hs Q1 ?_
        refine ⟨(⟨s132, x2.opn⟩ : PBuilder), rfl, trivial, ?_, ?_⟩
        ·
         repeat' apply And.intro
         all_goals (try dsimp only)
         all_goals first | trivial | assumption | omega | ((try simp only [List.length_append, List.length_cons, List.length_nil, lsz_app, lsz_one, lsz_cons, lsz_nil, TAddr.size, TResponse.size, TRequest.size, TPolicy.size, TEntry.size, TCache.size, strsz, TLine.size, TSent.size, TServer.size, TFile.size, List.map_append, List.map_cons, List.map_nil, PServer.lg, PToken.lg, TToken.size, PNode.lg, TNode.size, TAttr.size, PBuilder.lg, TBuilder.size, TTokenizer.size, List.length_take, List.length_drop, PPolicy.lg, PCache.lg, hl132] at *); first | omega | assumption)
        ·
         exact hs.freshD (x := (⟨s132, x2.opn⟩ : PBuilder)) (F := Fj133) Q2
       ·
        replace hs := Sat.boxow (l := ([([] : Str), ([120] : Str)] : List Str)) (hs.sel (D := [box b116 _ _]) Q2) rfl rfl (by decide) (ownL_mk_flat (lit_str Q0))
        try simp only [List.cons_append, List.nil_append] at hs
        refine WI.calld (i := 10) hs (T := 93) (b := b_) (c := c) Q2 (fun _ hs => hs.only Q2) Q0 Q0 (Yc.func Q0 fn28) (c_spec_l1Str c b_ (⟨[([] : Str), ([120] : Str)], some ⟨b116, 0, none⟩, 2⟩ : Sl Str) _ (Apart.own (s := (⟨[([] : Str), ([120] : Str)], some ⟨b116, 0, none⟩, 2⟩ : Sl Str)) (F := [b116]) hs Q2) (by exact Nat.succ_pos _) (hs.cur Q1) (Apart.now hb_c hs)) ?_
        clear hs; intro v w ho hR hs
        obtain ⟨x134, rfl, hokx134, hx134, hf134⟩ := hR
        clear ho hf134
        replace hx134 : x134 ∈ ([([] : Str), ([120] : Str)] : List Str) := hx134
        have hn134 := mem_len 1 hx134 Q0
        refine WA.p (i := 11) Q0 Q6 Q6 Q6 Q0 (hs.only Q2) (fun w hs => Yl.build bt84 Q0 Q4) ?_
        refine WA.dag' [(⟨1, 21, [], (fun _ v cs => v = Sl.v x2.nodes ∧ cs = [])⟩, []), (⟨12, 32, [], (fun _ v cs => ∃ b, v = .slice (some ⟨b, 0, none⟩) 1 1 ∧ cs = [box b 84 ((Ph.enc ((⟨x123, x134, (x129 - 1), ⟨[], none, 0⟩⟩ : PNode))))])⟩, [])] [false, false] [(0, _), (2, _), (3, _), (4, _), (5, _), (6, _), (7, _), (8, _), (9, _), (18, _), (19, _), (20, _), (22, _), (23, _), (24, _), (25, _), (26, _), (27, _), (28, _), (29, _), (30, _), (31, _)] ⟨by rfl, by rfl, by rfl, by rfl, by rfl, by rfl, by rfl, by rfl, by rfl, by rfl, by rfl, by rfl, by rfl, by rfl, by rfl, by rfl, by rfl, by rfl, by rfl, by rfl, by rfl, by rfl, trivial⟩ Q0 Q6 Q6 Q6 Q6 Q6 Q6 Q6 Q6 (fun _ hs => hs.only Q2) hs (fuel := 3) ⟨⟨local_const, ?_⟩, ⟨local_const, ?_⟩, trivial⟩ ?_
        ·
         clear hs
         intro w R hs
         simp only [List.cons_append, List.nil_append] at hs
         exact Gives.p' Q0 (Yl.loadB sca37 Q0 hs Q1 Q0) ⟨[], ⟨rfl, rfl⟩, hs⟩
        ·
         clear hs
         intro w R hs
         simp only [List.cons_append, List.nil_append] at hs
         exact Gives.rr' Q0 (Yr.buildSlice hs sll37 Q0 Q0 Q0 Q4 Q0) (fun _ _ ⟨b, hv, _, hs1⟩ => ⟨[box b 84 ((Ph.enc ((⟨x123, x134, (x129 - 1), ⟨[], none, 0⟩⟩ : PNode))))], ⟨b, hv, rfl⟩, hs1⟩)
        clear hs
        rintro _ _ ⟨rfl, rfl⟩
        rintro _ _ ⟨b136, rfl, rfl⟩
        intro w hs
        simp only [List.cons_append, List.nil_append, cond_true, cond_false] at hs
        replace hs := Sat.nilsl (α := TAttr) hs
        replace hs := PNode.join (⟨x123, x134, (x129 - 1), ⟨[], none, 0⟩⟩ : PNode) (hs.sel (D := [ow (⟨[], none, 0⟩ : (Sl TAttr)) []]) Q2) (by first | exact (Flat.any hokx123) | (refine Ph.old ?_ hs; assumption) ) (by first | exact (Flat.any hokx134) | (refine Ph.old ?_ hs; assumption) ) (by first | exact trivial | (refine Ph.old ?_ hs; assumption) | exact (show WfI ((x129 - 1)) from ⟨by omega, by omega⟩))
        try simp only [List.cons_append, List.nil_append] at hs
        refine WA.r (i := 13) Q6 Q0 Q0 (Yr.appendE (s := x2.nodes) (F := K3_0) (u := (⟨x123, x134, (x129 - 1), ⟨[], none, 0⟩⟩ : PNode)) (G := []) hs elt37 Q2 Q0 Q0 (hs.box_cells Q1) (by first | (unfold maxLen; omega) | omega | ((try simp only [lsz, strsz, List.length_map, PCache.lg, TCache.size, PPolicy.lg, TPolicy.size, List.length_cons, List.length_nil] at *); first | (unfold maxLen; omega) | omega)) (by first | (unfold maxLen; omega) | omega | ((try simp only [lsz, strsz, List.length_map, PCache.lg, TCache.size, PPolicy.lg, TPolicy.size, List.length_cons, List.length_nil] at *); first | (unfold maxLen; omega) | omega))) (by rintro _ w ⟨s137, F137, rfl, hl137, hs⟩; exact hs.only Q2) ?_
        clear hs; rintro _ w ⟨s137, F137, rfl, hl137, hs⟩
        refine WA.p (i := 14) Q0 Q6 Q6 Q6 Q0 (hs.only Q2) (fun w hs => Yl.fieldAddr fa40_0 Q0) ?_
        refine WA.s (i := 15) Q6 Q0 (Yr.storeB hs Q0 Q0 Q0 Q5 Q3 Q0 (by exact szf37)) (by rintro _ w hs; exact hs.only Q2) ?_
        clear hs; rintro _ w hs
        refine WA.done Q6 ?_
        refine At.blocknormal ?_
        refine At.then_ ?_
        refine WC.seq ?_
        refine WL.p Q0 (Yl.loadAB agg40 Q0 hs Q1 Q0 Q0) ?_
        refine WL.s (Yr.storeB hs Q0 Q0 Q0 Q5 Q3 Q0 (by exact szf40)) ?_
        clear hs; rintro _ w hs
        refine WL.next ?_
        refine WC.ret ?_
        refine fin1c rfl agg40 Q0 hs Q1 Q0 ?_
        obtain ⟨Fj138, hs⟩ : ∃ F, Sat _ _ _ (ow (⟨s137, x2.opn⟩ : PBuilder) F :: _) := ⟨_, PBuilder.join (⟨s137, x2.opn⟩ : PBuilder) (hs.sel (D := [ow s137 F137, ow x2.opn K3_1]) Q2) ⟩
        try simp only [List.cons_append, List.nil_append] at hs
        refine RetD.mk hs Q1 ?_
        refine ⟨(⟨s137, x2.opn⟩ : PBuilder), rfl, trivial, ?_, ?_⟩
        ·
         repeat' apply And.intro
         all_goals (try dsimp only)
         all_goals first | trivial | assumption | omega | ((try simp only [List.length_append, List.length_cons, List.length_nil, lsz_app, lsz_one, lsz_cons, lsz_nil, TAddr.size, TResponse.size, TRequest.size, TPolicy.size, TEntry.size, TCache.size, strsz, TLine.size, TSent.size, TServer.size, TFile.size, List.map_append, List.map_cons, List.map_nil, PServer.lg, PToken.lg, TToken.size, PNode.lg, TNode.size, TAttr.size, PBuilder.lg, TBuilder.size, TTokenizer.size, List.length_take, List.length_drop, PPolicy.lg, PCache.lg, hl137] at *); first | omega | assumption)
        ·
         exact hs.freshD (x := (⟨s137, x2.opn⟩ : PBuilder)) (F := Fj138) Q2
   ·
    refine WI.r (i := 9) Q0 Q0 (Yr.buildSlice hs sll48 Q0 Q0 Q0 Q4 Q0) (by rintro _ w ⟨b139, rfl, hb, hs⟩; exact hs.only Q2) ?_
    clear hs; rintro _ w ⟨b139, rfl, hb, hs⟩; clear hb
    refine WA.two (i := 1) (j := 3) Q6 ?_ ?_
    ·
     refine WI.r (i := 1) Q0 Q0 (Yl.yr (Yl.loadB sca37 Q0 hs Q1 Q0)) (by rintro _ _ ⟨rfl, rfl⟩; exact hs.only Q2) ?_
     rintro _ _ ⟨rfl, rfl⟩
     refine WA.r (i := 3) Q6 Q0 Q0 (Yr.buildSlice hs sll48 Q0 Q0 Q0 Q4 Q0) (by rintro _ w ⟨b140, rfl, hb, hs⟩; exact hs.only Q2) ?_
     clear hs; rintro _ w ⟨b140, rfl, hb, hs⟩; clear hb
     replace hs := Sat.boxow (l := ([([112] : Str), ([] : Str), ([81] : Str)] : List Str)) (hs.sel (D := [box b140 _ _]) Q2) rfl rfl (by decide) (ownL_mk_flat (lit_str Q0))
     try simp only [List.cons_append, List.nil_append] at hs
     refine WA.calld (i := 4) hs (T := 93) (b := b_) (c := c) Q2 (fun _ hs => hs.only Q2) Q6 Q0 Q0 (Yc.func Q0 fn28) (c_spec_l1Str c b_ (⟨[([112] : Str), ([] : Str), ([81] : Str)], some ⟨b140, 0, none⟩, 3⟩ : Sl Str) _ (Apart.own (s := (⟨[([112] : Str), ([] : Str), ([81] : Str)], some ⟨b140, 0, none⟩, 3⟩ : Sl Str)) (F := [b140]) hs Q2) (by exact Nat.succ_pos _) (hs.cur Q1) (Apart.now hb_c hs)) ?_
     clear hs; intro v w ho hR hs
     obtain ⟨x141, rfl, hokx141, hx141, hf141⟩ := hR
     clear ho hf141
     replace hx141 : x141 ∈ ([([112] : Str), ([] : Str), ([81] : Str)] : List Str) := hx141
     have hn141 := mem_len 1 hx141 Q0
     refine WA.calld (i := 6) hs (T := 93) (b := b_) (c := c) Q2 (fun _ hs => hs.only Q2) Q6 Q0 Q0 (Yc.func Q0 fn46) (c_spec_l1Below c b_ _ _ (hs.cur Q1) (Apart.now hb_c hs)) ?_
     clear hs; intro v w ho hR hs
     obtain ⟨x142, rfl, hokx142, hx142, hf142⟩ := hR
     clear ho hf142
     replace hx142 : 0 ≤ x142 ∧ x142 < 3 := ⟨hx142.1, hx142.2.2 (by decide)⟩
     refine WA.p (i := 7) Q0 Q6 Q6 Q6 Q0 (hs.only Q2) (fun w hs => Yl.sub_ Q0 Q0 Q7) ?_
     replace hs := Sat.boxow (l := ([([] : Str), ([120] : Str)] : List Str)) (hs.sel (D := [box b139 _ _]) Q2) rfl rfl (by decide) (ownL_mk_flat (lit_str Q0))
     try simp only [List.cons_append, List.nil_append] at hs
     refine WA.calld (i := 10) hs (T := 93) (b := b_) (c := c) Q2 (fun _ hs => hs.only Q2) Q6 Q0 Q0 (Yc.func Q0 fn28) (c_spec_l1Str c b_ (⟨[([] : Str), ([120] : Str)], some ⟨b139, 0, none⟩, 2⟩ : Sl Str) _ (Apart.own (s := (⟨[([] : Str), ([120] : Str)], some ⟨b139, 0, none⟩, 2⟩ : Sl Str)) (F := [b139]) hs Q2) (by exact Nat.succ_pos _) (hs.cur Q1) (Apart.now hb_c hs)) ?_
     clear hs; intro v w ho hR hs
     obtain ⟨x143, rfl, hokx143, hx143, hf143⟩ := hR
     clear ho hf143
     replace hx143 : x143 ∈ ([([] : Str), ([120] : Str)] : List Str) := hx143
     have hn143 := mem_len 1 hx143 Q0
     refine WA.p (i := 11) Q0 Q6 Q6 Q6 Q0 (hs.only Q2) (fun w hs => Yl.build bt84 Q0 Q4) ?_
     refine WA.r (i := 12) Q6 Q0 Q0 (Yr.buildSlice hs sll37 Q0 Q0 Q0 Q4 Q0) (by rintro _ w ⟨b144, rfl, hb, hs⟩; exact hs.only Q2) ?_
     clear hs; rintro _ w ⟨b144, rfl, hb, hs⟩; clear hb
     replace hs := Sat.nilsl (α := TAttr) hs
     replace hs := PNode.join (⟨x141, x143, (x142 - 1), ⟨[], none, 0⟩⟩ : PNode) (hs.sel (D := [ow (⟨[], none, 0⟩ : (Sl TAttr)) []]) Q2) (by first | exact (Flat.any hokx141) | (refine Ph.old ?_ hs; assumption) ) (by first | exact (Flat.any hokx143) | (refine Ph.old ?_ hs; assumption) ) (by first | exact trivial | (refine Ph.old ?_ hs; assumption) | exact (show WfI ((x142 - 1)) from ⟨by omega, by omega⟩))
     try simp only [List.cons_append, List.nil_append] at hs
     refine WA.r (i := 13) Q6 Q0 Q0 (Yr.appendE (s := x2.nodes) (F := K3_0) (u := (⟨x141, x143, (x142 - 1), ⟨[], none, 0⟩⟩ : PNode)) (G := []) hs elt37 Q2 Q0 Q0 (hs.box_cells Q1) (by first | (unfold maxLen; omega) | omega | ((try simp only [lsz, strsz, List.length_map, PCache.lg, TCache.size, PPolicy.lg, TPolicy.size, List.length_cons, List.length_nil] at *); first | (unfold maxLen; omega) | omega)) (by first | (unfold maxLen; omega) | omega | ((try simp only [lsz, strsz, List.length_map, PCache.lg, TCache.size, PPolicy.lg, TPolicy.size, List.length_cons, List.length_nil] at *); first | (unfold maxLen; omega) | omega))) (by rintro _ w ⟨s145, F145, rfl, hl145, hs⟩; exact hs.only Q2) ?_
     clear hs; rintro _ w ⟨s145, F145, rfl, hl145, hs⟩
     refine WA.p (i := 14) Q0 Q6 Q6 Q6 Q0 (hs.only Q2) (fun w hs => Yl.fieldAddr fa40_0 Q0) ?_
     refine WA.s (i := 15) Q6 Q0 (Yr.storeB hs Q0 Q0 Q0 Q5 Q3 Q0 (by exact szf37)) (by rintro _ w hs; exact hs.only Q2) ?_
     clear hs; rintro _ w hs
     refine WA.done Q6 ?_
     refine At.blocknormal ?_
     refine At.then_ ?_
     refine WC.seq ?_
     refine WL.p Q0 (Yl.loadAB agg40 Q0 hs Q1 Q0 Q0) ?_
     refine WL.s (Yr.storeB hs Q0 Q0 Q0 Q5 Q3 Q0 (by exact szf40)) ?_
     clear hs; rintro _ w hs
     refine WL.next ?_
     refine WC.ret ?_
     refine fin1c rfl agg40 Q0 hs Q1 Q0 ?_
     obtain ⟨Fj146, hs⟩ : ∃ F, Sat _ _ _ (ow (⟨s145, x2.opn⟩ : PBuilder) F :: _) := ⟨_, PBuilder.join (⟨s145, x2.opn⟩ : PBuilder) (hs.sel (D := [ow s145 F145, ow x2.opn K3_1]) Q2) ⟩
     try simp only [List.cons_append, List.nil_append] at hs
     refine RetD.mk hs Q1 ?_
     refine ⟨(⟨s145, x2.opn⟩ : PBuilder), rfl, trivial, ?_, ?_⟩
     ·
      repeat' apply And.intro
      all_goals (try dsimp only)
      all_goals first | trivial | assumption | omega | ((try simp only [List.length_append, List.length_cons, List.length_nil, lsz_app, lsz_one, lsz_cons, lsz_nil, TAddr.size, TResponse.size, TRequest.size, TPolicy.size, TEntry.size, TCache.size, strsz, TLine.size, TSent.size, TServer.size, TFile.size, List.map_append, List.map_cons, List.map_nil, PServer.lg, PToken.lg, TToken.size, PNode.lg, TNode.size, TAttr.size, PBuilder.lg, TBuilder.size, TTokenizer.size, List.length_take, List.length_drop, PPolicy.lg, PCache.lg, hl145] at *); first | omega | assumption)
     ·
      exact hs.freshD (x := (⟨s145, x2.opn⟩ : PBuilder)) (F := Fj146) Q2
    ·
     refine WI.r (i := 3) Q0 Q0 (Yr.buildSlice hs sll48 Q0 Q0 Q0 Q4 Q0) (by rintro _ w ⟨b147, rfl, hb, hs⟩; exact hs.only Q2) ?_
     clear hs; rintro _ w ⟨b147, rfl, hb, hs⟩; clear hb
     refine WA.two (i := 1) (j := 4) Q6 ?_ ?_
     ·
      refine WI.r (i := 1) Q0 Q0 (Yl.yr (Yl.loadB sca37 Q0 hs Q1 Q0)) (by rintro _ _ ⟨rfl, rfl⟩; exact hs.only Q2) ?_
      rintro _ _ ⟨rfl, rfl⟩
      replace hs := Sat.boxow (l := ([([112] : Str), ([] : Str), ([81] : Str)] : List Str)) (hs.sel (D := [box b147 _ _]) Q2) rfl rfl (by decide) (ownL_mk_flat (lit_str Q0))
      try simp only [List.cons_append, List.nil_append] at hs
      refine WA.calld (i := 4) hs (T := 93) (b := b_) (c := c) Q2 (fun _ hs => hs.only Q2) Q6 Q0 Q0 (Yc.func Q0 fn28) (c_spec_l1Str c b_ (⟨[([112] : Str), ([] : Str), ([81] : Str)], some ⟨b147, 0, none⟩, 3⟩ : Sl Str) _ (Apart.own (s := (⟨[([112] : Str), ([] : Str), ([81] : Str)], some ⟨b147, 0, none⟩, 3⟩ : Sl Str)) (F := [b147]) hs Q2) (by exact Nat.succ_pos _) (hs.cur Q1) (Apart.now hb_c hs)) ?_
      clear hs; intro v w ho hR hs
      obtain ⟨x148, rfl, hokx148, hx148, hf148⟩ := hR
      clear ho hf148
      replace hx148 : x148 ∈ ([([112] : Str), ([] : Str), ([81] : Str)] : List Str) := hx148
      have hn148 := mem_len 1 hx148 Q0
      refine WA.calld (i := 6) hs (T := 93) (b := b_) (c := c) Q2 (fun _ hs => hs.only Q2) Q6 Q0 Q0 (Yc.func Q0 fn46) (c_spec_l1Below c b_ _ _ (hs.cur Q1) (Apart.now hb_c hs)) ?_
      clear hs; intro v w ho hR hs
      obtain ⟨x149, rfl, hokx149, hx149, hf149⟩ := hR
      clear ho hf149
      replace hx149 : 0 ≤ x149 ∧ x149 < 3 := ⟨hx149.1, hx149.2.2 (by decide)⟩
      refine WA.p (i := 7) Q0 Q6 Q6 Q6 Q0 (hs.only Q2) (fun w hs => Yl.sub_ Q0 Q0 Q7) ?_
      replace hs := Sat.boxow (l := ([([] : Str), ([120] : Str)] : List Str)) (hs.sel (D := [box b139 _ _]) Q2) rfl rfl (by decide) (ownL_mk_flat (lit_str Q0))
      try simp only [List.cons_append, List.nil_append] at hs
      refine WA.calld (i := 10) hs (T := 93) (b := b_) (c := c) Q2 (fun _ hs => hs.only Q2) Q6 Q0 Q0 (Yc.func Q0 fn28) (c_spec_l1Str c b_ (⟨[([] : Str), ([120] : Str)], some ⟨b139, 0, none⟩, 2⟩ : Sl Str) _ (Apart.own (s := (⟨[([] : Str), ([120] : Str)], some ⟨b139, 0, none⟩, 2⟩ : Sl Str)) (F := [b139]) hs Q2) (by exact Nat.succ_pos _) (hs.cur Q1) (Apart.now hb_c hs)) ?_
      clear hs; intro v w ho hR hs
      obtain ⟨x150, rfl, hokx150, hx150, hf150⟩ := hR
      clear ho hf150
      replace hx150 : x150 ∈ ([([] : Str), ([120] : Str)] : List Str) := hx150
      have hn150 := mem_len 1 hx150 Q0
      refine WA.p (i := 11) Q0 Q6 Q6 Q6 Q0 (hs.only Q2) (fun w hs => Yl.build bt84 Q0 Q4) ?_
      refine WA.r (i := 12) Q6 Q0 Q0 (Yr.buildSlice hs sll37 Q0 Q0 Q0 Q4 Q0) (by rintro _ w ⟨b151, rfl, hb, hs⟩; exact hs.only Q2) ?_
      clear hs; rintro _ w ⟨b151, rfl, hb, hs⟩; clear hb
      replace hs := Sat.nilsl (α := TAttr) hs
      replace hs := PNode.join (⟨x148, x150, (x149 - 1), ⟨[], none, 0⟩⟩ : PNode) (hs.sel (D := [ow (⟨[], none, 0⟩ : (Sl TAttr)) []]) Q2) (by first | exact (Flat.any hokx148) | (refine Ph.old ?_ hs; assumption) ) (by first | exact (Flat.any hokx150) | (refine Ph.old ?_ hs; assumption) ) (by first | exact trivial | (refine Ph.old ?_ hs; assumption) | exact (show WfI ((x149 - 1)) from ⟨by omega, by omega⟩))
      try simp only [List.cons_append, List.nil_append] at hs
      refine WA.r (i := 13) Q6 Q0 Q0 (Yr.appendE (s := x2.nodes) (F := K3_0) (u := (⟨x148, x150, (x149 - 1), ⟨[], none, 0⟩⟩ : PNode)) (G := []) hs elt37 Q2 Q0 Q0 (hs.box_cells Q1) (by first | (unfold maxLen; omega) | omega | ((try simp only [lsz, strsz, List.length_map, PCache.lg, TCache.size, PPolicy.lg, TPolicy.size, List.length_cons, List.length_nil] at *); first | (unfold maxLen; omega) | omega)) (by first | (unfold maxLen; omega) | omega | ((try simp only [lsz, strsz, List.length_map, PCache.lg, TCache.size, PPolicy.lg, TPolicy.size, List.length_cons, List.length_nil] at *); first | (unfold maxLen; omega) | omega))) (by rintro _ w ⟨s152, F152, rfl, hl152, hs⟩; exact hs.only Q2) ?_
      clear hs; rintro _ w ⟨s152, F152, rfl, hl152, hs⟩
      refine WA.p (i := 14) Q0 Q6 Q6 Q6 Q0 (hs.only Q2) (fun w hs => Yl.fieldAddr fa40_0 Q0) ?_
      refine WA.s (i := 15) Q6 Q0 (Yr.storeB hs Q0 Q0 Q0 Q5 Q3 Q0 (by exact szf37)) (by rintro _ w hs; exact hs.only Q2) ?_
      clear hs; rintro _ w hs
      refine WA.done Q6 ?_
      refine At.blocknormal ?_
      refine At.then_ ?_
      refine WC.seq ?_
      refine WL.p Q0 (Yl.loadAB agg40 Q0 hs Q1 Q0 Q0) ?_
      refine WL.s (Yr.storeB hs Q0 Q0 Q0 Q5 Q3 Q0 (by exact szf40)) ?_
      clear hs; rintro _ w hs
      refine WL.next ?_
      refine WC.ret ?_
      refine fin1c rfl agg40 Q0 hs Q1 Q0 ?_
      obtain ⟨Fj153, hs⟩ : ∃ F, Sat _ _ _ (ow (⟨s152, x2.opn⟩ : PBuilder) F :: _) := ⟨_, PBuilder.join (⟨s152, x2.opn⟩ : PBuilder) (hs.sel (D := [ow s152 F152, ow x2.opn K3_1]) Q2) ⟩
      try simp only [List.cons_append, List.nil_append] at hs
      refine RetD.mk hs Q1 ?_
      refine ⟨(⟨s152, x2.opn⟩ : PBuilder), rfl, trivial, ?_, ?_⟩
      ·
       repeat' apply And.intro
       all_goals (try dsimp only)
       all_goals first | trivial | assumption | omega | ((try simp only [List.length_append, List.length_cons, List.length_nil, lsz_app, lsz_one, lsz_cons, lsz_nil, TAddr.size, TResponse.size, TRequest.size, TPolicy.size, TEntry.size, TCache.size, strsz, TLine.size, TSent.size, TServer.size, TFile.size, List.map_append, List.map_cons, List.map_nil, PServer.lg, PToken.lg, TToken.size, PNode.lg, TNode.size, TAttr.size, PBuilder.lg, TBuilder.size, TTokenizer.size, List.length_take, List.length_drop, PPolicy.lg, PCache.lg, hl152] at *); first | omega | assumption)
      ·
       exact hs.freshD (x := (⟨s152, x2.opn⟩ : PBuilder)) (F := Fj153) Q2
     ·
      replace hs := Sat.boxow (l := ([([112] : Str), ([] : Str), ([81] : Str)] : List Str)) (hs.sel (D := [box b147 _ _]) Q2) rfl rfl (by decide) (ownL_mk_flat (lit_str Q0))
      try simp only [List.cons_append, List.nil_append] at hs
      refine WI.calld (i := 4) hs (T := 93) (b := b_) (c := c) Q2 (fun _ hs => hs.only Q2) Q0 Q0 (Yc.func Q0 fn28) (c_spec_l1Str c b_ (⟨[([112] : Str), ([] : Str), ([81] : Str)], some ⟨b147, 0, none⟩, 3⟩ : Sl Str) _ (Apart.own (s := (⟨[([112] : Str), ([] : Str), ([81] : Str)], some ⟨b147, 0, none⟩, 3⟩ : Sl Str)) (F := [b147]) hs Q2) (by exact Nat.succ_pos _) (hs.cur Q1) (Apart.now hb_c hs)) ?_
      clear hs; intro v w ho hR hs
      obtain ⟨x154, rfl, hokx154, hx154, hf154⟩ := hR
      clear ho hf154
      replace hx154 : x154 ∈ ([([112] : Str), ([] : Str), ([81] : Str)] : List Str) := hx154
      have hn154 := mem_len 1 hx154 Q0
      refine WA.two (i := 1) (j := 6) Q6 ?_ ?_
      ·
       refine WI.r (i := 1) Q0 Q0 (Yl.yr (Yl.loadB sca37 Q0 hs Q1 Q0)) (by rintro _ _ ⟨rfl, rfl⟩; exact hs.only Q2) ?_
       rintro _ _ ⟨rfl, rfl⟩
       refine WA.calld (i := 6) hs (T := 93) (b := b_) (c := c) Q2 (fun _ hs => hs.only Q2) Q6 Q0 Q0 (Yc.func Q0 fn46) (c_spec_l1Below c b_ _ _ (hs.cur Q1) (Apart.now hb_c hs)) ?_
       clear hs; intro v w ho hR hs
       obtain ⟨x155, rfl, hokx155, hx155, hf155⟩ := hR
       clear ho hf155
       replace hx155 : 0 ≤ x155 ∧ x155 < 3 := ⟨hx155.1, hx155.2.2 (by decide)⟩
       refine WA.p (i := 7) Q0 Q6 Q6 Q6 Q0 (hs.only Q2) (fun w hs => Yl.sub_ Q0 Q0 Q7) ?_
       replace hs := Sat.boxow (l := ([([] : Str), ([120] : Str)] : List Str)) (hs.sel (D := [box b139 _ _]) Q2) rfl rfl (by decide) (ownL_mk_flat (lit_str Q0))
       try simp only [List.cons_append, List.nil_append] at hs
       refine WA.calld (i := 10) hs (T := 93) (b := b_) (c := c) Q2 (fun _ hs => hs.only Q2) Q6 Q0 Q0 (Yc.func Q0 fn28) (c_spec_l1Str c b_ (⟨[([] : Str), ([120] : Str)], some ⟨b139, 0, none⟩, 2⟩ : Sl Str) _ (Apart.own (s := (⟨[([] : Str), ([120] : Str)], some ⟨b139, 0, none⟩, 2⟩ : Sl Str)) (F := [b139]) hs Q2) (by exact Nat.succ_pos _) (hs.cur Q1) (Apart.now hb_c hs)) ?_
       clear hs; intro v w ho hR hs
       obtain ⟨x156, rfl, hokx156, hx156, hf156⟩ := hR
       clear ho hf156
       replace hx156 : x156 ∈ ([([] : Str), ([120] : Str)] : List Str) := hx156
       have hn156 := mem_len 1 hx156 Q0
       refine WA.p (i := 11) Q0 Q6 Q6 Q6 Q0 (hs.only Q2) (fun w hs => Yl.build bt84 Q0 Q4) ?_
       refine WA.r (i := 12) Q6 Q0 Q0 (Yr.buildSlice hs sll37 Q0 Q0 Q0 Q4 Q0) (by rintro _ w ⟨b157, rfl, hb, hs⟩; exact hs.only Q2) ?_
       clear hs; rintro _ w ⟨b157, rfl, hb, hs⟩; clear hb
       replace hs := Sat.nilsl (α := TAttr) hs
       replace hs := PNode.join (⟨x154, x156, (x155 - 1), ⟨[], none, 0⟩⟩ : PNode) (hs.sel (D := [ow (⟨[], none, 0⟩ : (Sl TAttr)) []]) Q2) (by first | exact (Flat.any hokx154) | (refine Ph.old ?_ hs; assumption) ) (by first | exact (Flat.any hokx156) | (refine Ph.old ?_ hs; assumption) ) (by first | exact trivial | (refine Ph.old ?_ hs; assumption) | exact (show WfI ((x155 - 1)) from ⟨by omega, by omega⟩))
       try simp only [List.cons_append, List.nil_append] at hs
       refine WA.r (i := 13) Q6 Q0 Q0 (Yr.appendE (s := x2.nodes) (F := K3_0) (u := (⟨x154, x156, (x155 - 1), ⟨[], none, 0⟩⟩ : PNode)) (G := []) hs elt37 Q2 Q0 Q0 (hs.box_cells Q1) (by first | (unfold maxLen; omega) | omega | ((try simp only [lsz, strsz, List.length_map, PCache.lg, TCache.size, PPolicy.lg, TPolicy.size, List.length_cons, List.length_nil] at *); first | (unfold maxLen; omega) | omega)) (by first | (unfold maxLen; omega) | omega | ((try simp only [lsz, strsz, List.length_map, PCache.lg, TCache.size, PPolicy.lg, TPolicy.size, List.length_cons, List.length_nil] at *); first | (unfold maxLen; omega) | omega))) (by rintro _ w ⟨s158, F158, rfl, hl158, hs⟩; exact hs.only Q2) ?_
       clear hs; rintro _ w ⟨s158, F158, rfl, hl158, hs⟩
       refine WA.p (i := 14) Q0 Q6 Q6 Q6 Q0 (hs.only Q2) (fun w hs => Yl.fieldAddr fa40_0 Q0) ?_
       refine WA.s (i := 15) Q6 Q0 (Yr.storeB hs Q0 Q0 Q0 Q5 Q3 Q0 (by exact szf37)) (by rintro _ w hs; exact hs.only Q2) ?_
       clear hs; rintro _ w hs
       refine WA.done Q6 ?_
       refine At.blocknormal ?_
       refine At.then_ ?_
       refine WC.seq ?_
       refine WL.p Q0 (Yl.loadAB agg40 Q0 hs Q1 Q0 Q0) ?_
       refine WL.s (Yr.storeB hs Q0 Q0 Q0 Q5 Q3 Q0 (by exact szf40)) ?_
       clear hs; rintro _ w hs
       refine WL.next ?_
       refine WC.ret ?_
       refine fin1c rfl agg40 Q0 hs Q1 Q0 ?_
       obtain ⟨Fj159, hs⟩ : ∃ F, Sat _ _ _ (ow (⟨s158, x2.opn⟩ : PBuilder) F :: _) := ⟨_, PBuilder.join (⟨s158, x2.opn⟩ : PBuilder) (hs.sel (D := [ow s158 F158, ow x2.opn K3_1]) Q2) ⟩
       try simp only [List.cons_append, List.nil_append] at hs
       refine RetD.mk hs Q1 ?_
       refine ⟨(⟨s158, x2.opn⟩ : PBuilder), rfl, trivial, ?_, ?_⟩
       ·
        repeat' apply And.intro
        all_goals (try dsimp only)
        all_goals first | trivial | assumption | omega | ((try simp only [List.length_append, List.length_cons, List.length_nil, lsz_app, lsz_one, lsz_cons, lsz_nil, TAddr.size, TResponse.size, TRequest.size, TPolicy.size, TEntry.size, TCache.size, strsz, TLine.size, TSent.size, TServer.size, TFile.size, List.map_append, List.map_cons, List.map_nil, PServer.lg, PToken.lg, TToken.size, PNode.lg, TNode.size, TAttr.size, PBuilder.lg, TBuilder.size, TTokenizer.size, List.length_take, List.length_drop, PPolicy.lg, PCache.lg, hl158] at *); first | omega | assumption)
       ·
        exact hs.freshD (x := (⟨s158, x2.opn⟩ : PBuilder)) (F := Fj159) Q2
      ·
       refine WI.calld (i := 6) hs (T := 93) (b := b_) (c := c) Q2 (fun _ hs => hs.only Q2) Q0 Q0 (Yc.func Q0 fn46) (c_spec_l1Below c b_ _ _ (hs.cur Q1) (Apart.now hb_c hs)) ?_
       clear hs; intro v w ho hR hs
       obtain ⟨x160, rfl, hokx160, hx160, hf160⟩ := hR
       clear ho hf160
       replace hx160 : 0 ≤ x160 ∧ x160 < 3 := ⟨hx160.1, hx160.2.2 (by decide)⟩
       refine WA.p (i := 7) Q0 Q6 Q6 Q6 Q0 (hs.only Q2) (fun w hs => Yl.sub_ Q0 Q0 Q7) ?_
       refine WA.two (i := 1) (j := 10) Q6 ?_ ?_
       ·
        refine WI.r (i := 1) Q0 Q0 (Yl.yr (Yl.loadB sca37 Q0 hs Q1 Q0)) (by rintro _ _ ⟨rfl, rfl⟩; exact hs.only Q2) ?_
        rintro _ _ ⟨rfl, rfl⟩
        replace hs := Sat.boxow (l := ([([] : Str), ([120] : Str)] : List Str)) (hs.sel (D := [box b139 _ _]) Q2) rfl rfl (by decide) (ownL_mk_flat (lit_str Q0))
        try simp only [List.cons_append, List.nil_append] at hs
        refine WA.calld (i := 10) hs (T := 93) (b := b_) (c := c) Q2 (fun _ hs => hs.only Q2) Q6 Q0 Q0 (Yc.func Q0 fn28) (c_spec_l1Str c b_ (⟨[([] : Str), ([120] : Str)], some ⟨b139, 0, none⟩, 2⟩ : Sl Str) _ (Apart.own (s := (⟨[([] : Str), ([120] : Str)], some ⟨b139, 0, none⟩, 2⟩ : Sl Str)) (F := [b139]) hs Q2) (by exact Nat.succ_pos _) (hs.cur Q1) (Apart.now hb_c hs)) ?_
        clear hs; intro v w ho hR hs
        obtain ⟨x161, rfl, hokx161, hx161, hf161⟩ := hR
        clear ho hf161
        replace hx161 : x161 ∈ ([([] : Str), ([120] : Str)] : List Str) := hx161
        have hn161 := mem_len 1 hx161 Q0
        refine WA.p (i := 11) Q0 Q6 Q6 Q6 Q0 (hs.only Q2) (fun w hs => Yl.build bt84 Q0 Q4) ?_
        refine WA.r (i := 12) Q6 Q0 Q0 (Yr.buildSlice hs sll37 Q0 Q0 Q0 Q4 Q0) (by rintro _ w ⟨b162, rfl, hb, hs⟩; exact hs.only Q2) ?_
        clear hs; rintro _ w ⟨b162, rfl, hb, hs⟩; clear hb
        replace hs := Sat.nilsl (α := TAttr) hs
        replace hs := PNode.join (⟨x154, x161, (x160 - 1), ⟨[], none, 0⟩⟩ : PNode) (hs.sel (D := [ow (⟨[], none, 0⟩ : (Sl TAttr)) []]) Q2) (by first | exact (Flat.any hokx154) | (refine Ph.old ?_ hs; assumption) ) (by first | exact (Flat.any hokx161) | (refine Ph.old ?_ hs; assumption) ) (by first | exact trivial | (refine Ph.old ?_ hs; assumption) | exact (show WfI ((x160 - 1)) from ⟨by omega, by omega⟩))
        try simp only [List.cons_append, List.nil_append] at hs
        refine WA.r (i := 13) Q6 Q0 Q0 (Yr.appendE (s := x2.nodes) (F := K3_0) (u := (⟨x154, x161, (x160 - 1), ⟨[], none, 0⟩⟩ : PNode)) (G := []) hs elt37 Q2 Q0 Q0 (hs.box_cells Q1) (by first | (unfold maxLen; omega) | omega | ((try simp only [lsz, strsz, List.length_map, PCache.lg, TCache.size, PPolicy.lg, TPolicy.size, List.length_cons, List.length_nil] at *); first | (unfold maxLen; omega) | omega)) (by first | (unfold maxLen; omega) | omega | ((try simp only [lsz, strsz, List.length_map, PCache.lg, TCache.size, PPolicy.lg, TPolicy.size, List.length_cons, List.length_nil] at *); first | (unfold maxLen; omega) | omega))) (by rintro _ w ⟨s163, F163, rfl, hl163, hs⟩; exact hs.only Q2) ?_
        clear hs; rintro _ w ⟨s163, F163, rfl, hl163, hs⟩
        refine WA.p (i := 14) Q0 Q6 Q6 Q6 Q0 (hs.only Q2) (fun w hs => Yl.fieldAddr fa40_0 Q0) ?_
        refine WA.s (i := 15) Q6 Q0 (Yr.storeB hs Q0 Q0 Q0 Q5 Q3 Q0 (by exact szf37)) (by rintro _ w hs; exact hs.only Q2) ?_
        clear hs; rintro _ w hs
        refine WA.done Q6 ?_
        refine At.blocknormal ?_
        refine At.then_ ?_
        refine WC.seq ?_
        refine WL.p Q0 (Yl.loadAB agg40 Q0 hs Q1 Q0 Q0) ?_
        refine WL.s (Yr.storeB hs Q0 Q0 Q0 Q5 Q3 Q0 (by exact szf40)) ?_
        clear hs; rintro _ w hs
        refine WL.next ?_
        refine WC.ret ?_
        refine fin1c rfl agg40 Q0 hs Q1 Q0 ?_
        obtain ⟨Fj164, hs⟩ : ∃ F, Sat _ _ _ (ow (⟨s163, x2.opn⟩ : PBuilder) F :: _) := ⟨_, PBuilder.join (⟨s163, x2.opn⟩ : PBuilder) (hs.sel (D := [ow s163 F163, ow x2.opn K3_1]) Q2) ⟩
        try simp only [List.cons_append, List.nil_append] at hs
        refine RetD.mk hs Q1 ?_
        refine ⟨(⟨s163, x2.opn⟩ : PBuilder), rfl, trivial, ?_, ?_⟩
        ·
         repeat' apply And.intro
         all_goals (try dsimp only)
         all_goals first | trivial | assumption | omega | ((try simp only [List.length_append, List.length_cons, List.length_nil, lsz_app, lsz_one, lsz_cons, lsz_nil, TAddr.size, TResponse.size, TRequest.size, TPolicy.size, TEntry.size, TCache.size, strsz, TLine.size, TSent.size, TServer.size, TFile.size, List.map_append, List.map_cons, List.map_nil, PServer.lg, PToken.lg, TToken.size, PNode.lg, TNode.size, TAttr.size, PBuilder.lg, TBuilder.size, TTokenizer.size, List.length_take, List.length_drop, PPolicy.lg, PCache.lg, hl163] at *); first | omega | assumption)
        ·
         exact hs.freshD (x := (⟨s163, x2.opn⟩ : PBuilder)) (F := Fj164) Q2
       ·
        replace hs := Sat.boxow (l := ([([] : Str), ([120] : Str)] : List Str)) (hs.sel (D := [box b139 _ _]) Q2) rfl rfl (by decide) (ownL_mk_flat (lit_str Q0))
        try simp only [List.cons_append, List.nil_append] at hs
        refine WI.calld (i := 10) hs (T := 93) (b := b_) (c := c) Q2 (fun _ hs => hs.only Q2) Q0 Q0 (Yc.func Q0 fn28) (c_spec_l1Str c b_ (⟨[([] : Str), ([120] : Str)], some ⟨b139, 0, none⟩, 2⟩ : Sl Str) _ (Apart.own (s := (⟨[([] : Str), ([120] : Str)], some ⟨b139, 0, none⟩, 2⟩ : Sl Str)) (F := [b139]) hs Q2) (by exact Nat.succ_pos _) (hs.cur Q1) (Apart.now hb_c hs)) ?_
        clear hs; intro v w ho hR hs
        obtain ⟨x165, rfl, hokx165, hx165, hf165⟩ := hR
        clear ho hf165
        replace hx165 : x165 ∈ ([([] : Str), ([120] : Str)] : List Str) := hx165
        have hn165 := mem_len 1 hx165 Q0
        refine WA.p (i := 11) Q0 Q6 Q6 Q6 Q0 (hs.only Q2) (fun w hs => Yl.build bt84 Q0 Q4) ?_
        refine WA.dag' [(⟨1, 21, [], (fun _ v cs => v = Sl.v x2.nodes ∧ cs = [])⟩, []), (⟨12, 32, [], (fun _ v cs => ∃ b, v = .slice (some ⟨b, 0, none⟩) 1 1 ∧ cs = [box b 84 ((Ph.enc ((⟨x154, x165, (x160 - 1), ⟨[], none, 0⟩⟩ : PNode))))])⟩, [])] [false, false] [(0, _), (2, _), (3, _), (4, _), (5, _), (6, _), (7, _), (8, _), (9, _), (18, _), (19, _), (20, _), (22, _), (23, _), (24, _), (25, _), (26, _), (27, _), (28, _), (29, _), (30, _), (31, _)] ⟨by rfl, by rfl, by rfl, by rfl, by rfl, by rfl, by rfl, by rfl, by rfl, by rfl, by rfl, by rfl, by rfl, by rfl, by rfl, by rfl, by rfl, by rfl, by rfl, by rfl, by rfl, by rfl, trivial⟩ Q0 Q6 Q6 Q6 Q6 Q6 Q6 Q6 Q6 (fun _ hs => hs.only Q2) hs (fuel := 3) ⟨⟨local_const, ?_⟩, ⟨local_const, ?_⟩, trivial⟩ ?_
        ·
         clear hs
         intro w R hs
         simp only [List.cons_append, List.nil_append] at hs
         exact Gives.p' Q0 (Yl.loadB sca37 Q0 hs Q1 Q0) ⟨[], ⟨rfl, rfl⟩, hs⟩
        ·
         clear hs
         intro w R hs
         simp only [List.cons_append, List.nil_append] at hs
         exact Gives.rr' Q0 (Yr.buildSlice hs sll37 Q0 Q0 Q0 Q4 Q0) (fun _ _ ⟨b, hv, _, hs1⟩ => ⟨[box b 84 ((Ph.enc ((⟨x154, x165, (x160 - 1), ⟨[], none, 0⟩⟩ : PNode))))], ⟨b, hv, rfl⟩, hs1⟩)
        clear hs
        rintro _ _ ⟨rfl, rfl⟩
        rintro _ _ ⟨b167, rfl, rfl⟩
        intro w hs
        simp only [List.cons_append, List.nil_append, cond_true, cond_false] at hs
        replace hs := Sat.nilsl (α := TAttr) hs
        replace hs := PNode.join (⟨x154, x165, (x160 - 1), ⟨[], none, 0⟩⟩ : PNode) (hs.sel (D := [ow (⟨[], none, 0⟩ : (Sl TAttr)) []]) Q2) (by first | exact (Flat.any hokx154) | (refine Ph.old ?_ hs; assumption) ) (by first | exact (Flat.any hokx165) | (refine Ph.old ?_ hs; assumption) ) (by first | exact trivial | (refine Ph.old ?_ hs; assumption) | exact (show WfI ((x160 - 1)) from ⟨by omega, by omega⟩))
        try simp only [List.cons_append, List.nil_append] at hs
        refine WA.r (i := 13) Q6 Q0 Q0 (Yr.appendE (s := x2.nodes) (F := K3_0) (u := (⟨x154, x165, (x160 - 1), ⟨[], none, 0⟩⟩ : PNode)) (G := []) hs elt37 Q2 Q0 Q0 (hs.box_cells Q1) (by first | (unfold maxLen; omega) | omega | ((try simp only [lsz, strsz, List.length_map, PCache.lg, TCache.size, PPolicy.lg, TPolicy.size, List.length_cons, List.length_nil] at *); first | (unfold maxLen; omega) | omega)) (by first | (unfold maxLen; omega) | omega | ((try simp only [lsz, strsz, List.length_map, PCache.lg, TCache.size, PPolicy.lg, TPolicy.size, List.length_cons, List.length_nil] at *); first | (unfold maxLen; omega) | omega))) (by rintro _ w ⟨s168, F168, rfl, hl168, hs⟩; exact hs.only Q2) ?_
        clear hs; rintro _ w ⟨s168, F168, rfl, hl168, hs⟩
        refine WA.p (i := 14) Q0 Q6 Q6 Q6 Q0 (hs.only Q2) (fun w hs => Yl.fieldAddr fa40_0 Q0) ?_
        refine WA.s (i := 15) Q6 Q0 (Yr.storeB hs Q0 Q0 Q0 Q5 Q3 Q0 (by exact szf37)) (by rintro _ w hs; exact hs.only Q2) ?_
        clear hs; rintro _ w hs
        refine WA.done Q6 ?_
        refine At.blocknormal ?_
        refine At.then_ ?_
        refine WC.seq ?_
        refine WL.p Q0 (Yl.loadAB agg40 Q0 hs Q1 Q0 Q0) ?_
        refine WL.s (Yr.storeB hs Q0 Q0 Q0 Q5 Q3 Q0 (by exact szf40)) ?_
        clear hs; rintro _ w hs
        refine WL.next ?_
        refine WC.ret ?_
        refine fin1c rfl agg40 Q0 hs Q1 Q0 ?_
        obtain ⟨Fj169, hs⟩ : ∃ F, Sat _ _ _ (ow (⟨s168, x2.opn⟩ : PBuilder) F :: _) := ⟨_, PBuilder.join (⟨s168, x2.opn⟩ : PBuilder) (hs.sel (D := [ow s168 F168, ow x2.opn K3_1]) Q2) ⟩
        try simp only [List.cons_append, List.nil_append] at hs
        refine RetD.mk hs Q1 ?_
        refine ⟨(⟨s168, x2.opn⟩ : PBuilder), rfl, trivial, ?_, ?_⟩
        ·
         repeat' apply And.intro
         all_goals (try dsimp only)
         all_goals first | trivial | assumption | omega | ((try simp only [List.length_append, List.length_cons, List.length_nil, lsz_app, lsz_one, lsz_cons, lsz_nil, TAddr.size, TResponse.size, TRequest.size, TPolicy.size, TEntry.size, TCache.size, strsz, TLine.size, TSent.size, TServer.size, TFile.size, List.map_append, List.map_cons, List.map_nil, PServer.lg, PToken.lg, TToken.size, PNode.lg, TNode.size, TAttr.size, PBuilder.lg, TBuilder.size, TTokenizer.size, List.length_take, List.length_drop, PPolicy.lg, PCache.lg, hl168] at *); first | omega | assumption)
        ·
         exact hs.freshD (x := (⟨s168, x2.opn⟩ : PBuilder)) (F := Fj169) Q2
  ·
   replace h2 := of_decide_eq_false h2
   refine WC.seq ?_
   refine WL.p Q0 (Yl.eqi Q0 Q0) ?_
   refine Qa ?_
   refine WL.next ?_
   refine WC.condS Q0 (fun h3 => ?_) (fun h3 => ?_)
   ·
    replace h3 := of_decide_eq_true h3
    refine WC.region ?_
    refine WL.p Q0 (Yl.fieldAddr fa40_1 Q0) ?_
    refine WL.s (Yr.storeB hs Q0 Q0 Q0 Q5 Q3 Q0 (by exact szf38)) ?_
    clear hs; rintro _ w hs
    refine WL.nil ?_
    refine At.blocknormal ?_
    refine At.then_ ?_
    refine WC.seq ?_
    refine WL.p Q0 (Yl.loadAB agg40 Q0 hs Q1 Q0 Q0) ?_
    refine WL.s (Yr.storeB hs Q0 Q0 Q0 Q5 Q3 Q0 (by exact szf40)) ?_
    clear hs; rintro _ w hs
    refine WL.next ?_
    refine WC.ret ?_
    refine fin1c rfl agg40 Q0 hs Q1 Q0 ?_
    replace hs := Sat.nilsl (α := Int) hs
    obtain ⟨Fj170, hs⟩ : ∃ F, Sat _ _ _ (ow (⟨x2.nodes, ⟨[], none, 0⟩⟩ : PBuilder) F :: _) := ⟨_, PBuilder.join (⟨x2.nodes, ⟨[], none, 0⟩⟩ : PBuilder) (hs.sel (D := [ow x2.nodes K3_0, ow (⟨[], none, 0⟩ : (Sl Int)) []]) Q2) ⟩
    try simp only [List.cons_append, List.nil_append] at hs
    refine RetD.mk hs Q1 ?_
    refine ⟨(⟨x2.nodes, ⟨[], none, 0⟩⟩ : PBuilder), rfl, trivial, ?_, ?_⟩
    ·
     repeat' apply And.intro
     all_goals (try dsimp only)
     all_goals first | trivial | assumption | omega | ((try simp only [List.length_append, List.length_cons, List.length_nil, lsz_app, lsz_one, lsz_cons, lsz_nil, TAddr.size, TResponse.size, TRequest.size, TPolicy.size, TEntry.size, TCache.size, strsz, TLine.size, TSent.size, TServer.size, TFile.size, List.map_append, List.map_cons, List.map_nil, PServer.lg, PToken.lg, TToken.size, PNode.lg, TNode.size, TAttr.size, PBuilder.lg, TBuilder.size, TTokenizer.size, List.length_take, List.length_drop, PPolicy.lg, PCache.lg] at *); first | omega | assumption)
    ·
     exact hs.freshD (x := (⟨x2.nodes, ⟨[], none, 0⟩⟩ : PBuilder)) (F := Fj170) Q2
   ·
    replace h3 := of_decide_eq_false h3
    refine WC.seq ?_
    refine WL.p Q0 (Yl.eqi Q0 Q0) ?_
    refine Qa ?_
    refine WL.next ?_
    refine WC.condS Q0 (fun h4 => ?_) (fun h4 => ?_)
    ·
     replace h4 := of_decide_eq_true h4
     refine WC.block ?_
     replace hs := PBuilder.join x2 (hs.sel (D := [ow x2.nodes K3_0, ow x2.opn K3_1]) Q2)
     try simp only [List.cons_append, List.nil_append] at hs
     refine WC.loopC (ι := PBuilder × List Nat) (fun ⟨q, F⟩ => 40 - q.nodes.l.length) (fun ⟨q, F⟩ => []) (fun ⟨q, F⟩ => [box b4 40 [Sl.v q.nodes, Sl.v q.opn], ow q F]) (fun ⟨q, F⟩ => 0 < q.opn.l.length ∧ q.lg.size + 4 * (40 - q.nodes.l.length) ≤ 971000) [(0, _), (2, _), (3, _), (7, _), (8, _), (18, _), (35, _), (38, _)] (x2, K3_0 ++ K3_1) (hs.sel (D := [box b4 40 _, ow x2 (K3_0 ++ K3_1)]) Q2) ⟨by rfl, by rfl, by rfl, by rfl, by rfl, by rfl, by rfl, by rfl, trivial⟩ trivial ?_ ?_
     ·
      exact ⟨hx2.2, by have := hx2.1; omega⟩
     clear hs; rintro ⟨q, F⟩ w ⟨hJ1, hJ2⟩ hs
     simp only [List.cons_append, List.nil_append] at hs
     refine WC.seq' ?_
     refine WC.seq ?_
     refine WL.p Q0 (Yl.fieldAddr fa40_0 Q0) ?_
     refine WL.p Q0 (Yl.loadB sca37 Q0 hs Q1 Q0) ?_
     refine WL.p Q0 (Yl.len_sl slu37 Q0) ?_
     refine WL.p Q0 (Yl.lss Q0 Q0) ?_
     refine WL.next ?_
     refine WC.condS Q0 (fun h5 => ?_) (fun h5 => ?_)
     ·
      replace h5 := of_decide_eq_true h5
      obtain ⟨hqn, hqo, hqs⟩ := builder_lens (x := q) (B := 971000) Q7
      refine WC.skipn ?_
      refine WC.block ?_
      refine WC.region ?_
      refine WL.p Q0 (Yl.loadAB agg40 Q0 hs Q1 Q0 Q0) ?_
      refine WL.p Q0 (Yl.build bt112 Q0 Q4) ?_
      refine WL.callx hs Q0 (Yc.func Q0 fn71) (c_spec_AddToken _ (⟨3, ([] : Str), ⟨[], none, 0⟩, ([116] : Str)⟩ : PToken) _ ⟨(hs.okow (x := q) (F := F) Q1).nodes, (hs.okow (x := q) (F := F) Q1).opn⟩ ⟨(show WfI 3 from ⟨by omega, by omega⟩), (show WfS [] from Nat.zero_le _), (nilok _), (show WfS [116] from (by unfold WfS; simp))⟩ Q7 (by decide)) ?_
      clear hs; intro v w ho hR hs
      obtain ⟨x171_x, x171_r, rfl, hokx171_r, hx171, hf171⟩ := hR
      obtain ⟨F171, hs⟩ := hs.addF ho hf171
      clear ho hf171
      refine Qm ?_
      refine WL.p Q0 (Yl.extract Q0 Q0) ?_
      refine WL.p Q0 (Yl.extract Q0 Q0) ?_
      refine WL.s (Yr.storeB hs Q0 Q0 Q0 Q5 Q3 Q0 (by exact szf40)) ?_
      clear hs; rintro _ w hs
      refine WL.nil ?_
      refine At.blocknormal ?_
      refine At.roundC (x171_x, _) (hs.only Q2) ⟨by rfl, by rfl, by rfl, by rfl, by rfl, by rfl, by rfl, by rfl, trivial⟩ trivial ?_ ?_
      ·
       have h9 := hx171.2.2 rfl (by simp) hJ1 Q7
       show 40 - x171_x.nodes.l.length < 40 - q.nodes.l.length
       omega
      ·
       have h9 := hx171.2.2 rfl (by simp) hJ1 Q7
       have h8 := hx171.1; simp only [PToken.lg, TToken.size, List.length_nil, List.length_cons, lsz_nil] at h8
       exact ⟨hx171.2.1 hJ1, by omega⟩
     ·
      replace h5 := of_decide_eq_false h5
      refine WC.exit ?_
      refine At.thenexit ?_
      refine At.thenexit ?_
      refine At.blockexit ?_
      refine At.blocknormal ?_
      refine At.then_ ?_
      refine WC.seq ?_
      refine WL.p Q0 (Yl.loadAB agg40 Q0 hs Q1 Q0 Q0) ?_
      refine WL.s (Yr.storeB hs Q0 Q0 Q0 Q5 Q3 Q0 (by exact szf40)) ?_
      clear hs; rintro _ w hs
      refine WL.next ?_
      refine WC.ret ?_
      refine fin1c rfl agg40 Q0 hs Q1 Q0 ?_
      refine RetD.mk hs Q1 ?_
      refine ⟨q, rfl, trivial, ?_, ?_⟩
      ·
       repeat' apply And.intro
       all_goals (try dsimp only)
       all_goals first | trivial | assumption | omega | ((try simp only [List.length_append, List.length_cons, List.length_nil, lsz_app, lsz_one, lsz_cons, lsz_nil, TAddr.size, TResponse.size, TRequest.size, TPolicy.size, TEntry.size, TCache.size, strsz, TLine.size, TSent.size, TServer.size, TFile.size, List.map_append, List.map_cons, List.map_nil, PServer.lg, PToken.lg, TToken.size, PNode.lg, TNode.size, TAttr.size, PBuilder.lg, TBuilder.size, TTokenizer.size, List.length_take, List.length_drop, PPolicy.lg, PCache.lg] at *); first | omega | assumption)
      ·
       exact hs.freshD (x := q) (F := F) Q2
    ·
     replace h4 := of_decide_eq_false h4
     refine WC.skip ?_
     refine At.blocknormal ?_
     refine At.then_ ?_
     refine WC.seq ?_
     refine WL.p Q0 (Yl.loadAB agg40 Q0 hs Q1 Q0 Q0) ?_
     refine WL.s (Yr.storeB hs Q0 Q0 Q0 Q5 Q3 Q0 (by exact szf40)) ?_
     clear hs; rintro _ w hs
     refine WL.next ?_
     refine WC.ret ?_
     refine fin1c rfl agg40 Q0 hs Q1 Q0 ?_
     obtain ⟨Fj172, hs⟩ : ∃ F, Sat _ _ _ (ow (⟨x2.nodes, x2.opn⟩ : PBuilder) F :: _) := ⟨_, PBuilder.join (⟨x2.nodes, x2.opn⟩ : PBuilder) (hs.sel (D := [ow x2.nodes K3_0, ow x2.opn K3_1]) Q2) ⟩
     try simp only [List.cons_append, List.nil_append] at hs
     refine RetD.mk hs Q1 ?_
     refine ⟨(⟨x2.nodes, x2.opn⟩ : PBuilder), rfl, trivial, ?_, ?_⟩
     ·
      repeat' apply And.intro
      all_goals (try dsimp only)
      all_goals first | trivial | assumption | omega | ((try simp only [List.length_append, List.length_cons, List.length_nil, lsz_app, lsz_one, lsz_cons, lsz_nil, TAddr.size, TResponse.size, TRequest.size, TPolicy.size, TEntry.size, TCache.size, strsz, TLine.size, TSent.size, TServer.size, TFile.size, List.map_append, List.map_cons, List.map_nil, PServer.lg, PToken.lg, TToken.size, PNode.lg, TNode.size, TAttr.size, PBuilder.lg, TBuilder.size, TTokenizer.size, List.length_take, List.length_drop, PPolicy.lg, PCache.lg] at *); first | omega | assumption)
     ·
      exact hs.freshD (x := (⟨x2.nodes, x2.opn⟩ : PBuilder)) (F := Fj172) Q2

theorem c_spec_DrawColorAt (code : (Sl UInt8)) (w : World) (h_code : Ph.ok w code)  : Calls Tryz.prog 13 [Sl.v code].toArray w (Ret w (fun v w' => ∃ (l : Sl PSheet) (b : PBuilder) (n : Int), v = .tuple #[l.v, .agg (Ph.enc b).toArray, I n] ∧ (Ph.ok w' n) ∧ (lsz TSheet.size (l.l.map PSheet.lg) ≤ 200 ∧ b.lg.size ≤ 980000) ∧ Fresh2 w l b w')) := by
 refine enterN 23 Tryz.func13 rfl rfl rfl ?_
 have hs := Sat.start w
 refine WC.seq ?_
 refine Qa ?_
 refine WL.r Q0 (Yr.alloc hs zt40) ?_
 clear hs; rintro _ w ⟨b1, rfl, hb, hs⟩; clear hb
 refine Qa ?_
 refine WL.next ?_
 refine WC.seq ?_
 refine Qm ?_
 refine WL.calln hs Q0 (Yc.func Q0 fn25) (c_spec_l1New _ _ (Ph.old h_code hs)) ?_
 clear hs; intro c2 w hs
 refine Qa ?_
 refine WL.next ?_
 refine WC.seq ?_
 refine Qm ?_
 refine WL.calld hs (T := 93) (b := code) (c := c2) Q2 Q0 (Yc.func Q0 fn42) (c_spec_l7Sheets c2 code _ (hs.cur Q1) (Apart.new (by first | assumption) hs Q1)) ?_
 clear hs; intro v w ho hR hs
 obtain ⟨x3, rfl, _, hx3, hf3⟩ := hR
 obtain ⟨F3, hs⟩ := hs.addF ho hf3
 clear ho hf3
 refine Qa ?_
 refine WL.next ?_
 refine WC.seq ?_
 refine Qm ?_
 refine WL.calld hs (T := 93) (b := code) (c := c2) Q2 Q0 (Yc.func Q0 fn45) (c_spec_l6Any c2 code _ (hs.cur Q1) (Apart.new (by first | assumption) hs Q1)) ?_
 clear hs; intro v w ho hR hs
 obtain ⟨x4, rfl, _, hx4, hf4⟩ := hR
 obtain ⟨F4, hs⟩ := hs.addF ho hf4
 clear ho hf4
 obtain ⟨hbn4, hbo4, hbs4⟩ := builder_lens hx4
 refine WL.r Q0 (Yr.alloc hs zt40) ?_
 clear hs; rintro _ w ⟨b5, rfl, hb, hs⟩; clear hb
 refine WL.s (Yr.storeB hs Q0 Q0 Q0 Q5 Q3 Q0 (by exact szf40)) ?_
 clear hs; rintro _ w hs
 refine WL.next ?_
 refine WC.anyn2 (c := box b1 _ _) mixed hs (by repeat (first | exact Ext.here | apply Ext.there)) ?_
 clear hs; intro w hs
 refine WA.p (i := 0) Q0 Q6 Q6 Q6 Q0 (hs.only Q2) (fun w hs => Yl.move Q0) ?_
 refine WA.p (i := 1) Q0 Q6 Q6 Q6 Q0 (hs.only Q2) (fun w hs => Yl.loadAB agg40 Q0 hs Q1 Q0 Q0) ?_
 refine WA.p (i := 2) Q0 Q6 Q6 Q6 Q0 (hs.only Q2) (fun w hs => Yl.move Q0) ?_
 refine WA.p (i := 3) Q0 Q6 Q6 Q6 Q0 (hs.only Q2) (fun w hs => Yl.fieldAddr fa40_0 Q0) ?_
 refine WA.p (i := 4) Q0 Q6 Q6 Q6 Q0 (hs.only Q2) (fun w hs => Yl.loadB sca37 Q0 hs Q1 Q0) ?_
 refine WA.p (i := 5) Q0 Q6 Q6 Q6 Q0 (hs.only Q2) (fun w hs => Yl.len_sl slu37 Q0) ?_
 refine WA.p (i := 6) Q0 Q6 Q6 Q6 Q0 (hs.only Q2) (fun w hs => Yl.add Q0 Q0 Q7) ?_
 refine WA.calld (i := 7) hs (T := 93) (b := code) (c := c2) Q2 (fun _ hs => hs.only Q2) Q6 Q0 Q0 (Yc.func Q0 fn46) (c_spec_l1Below c2 code _ _ (hs.cur Q1) (Apart.new (by first | assumption) hs Q1)) ?_
 clear hs; intro v w ho hR hs
 obtain ⟨x6, rfl, hokx6, hx6, hf6⟩ := hR
 clear ho hf6
 refine WA.p (i := 8) Q0 Q6 Q6 Q6 Q0 (hs.only Q2) (fun w hs => Yl.sub_ Q0 Q0 Q7) ?_
 refine WA.p (i := 9) Q0 Q6 Q6 Q6 Q0 (hs.only Q2) (fun w hs => Yl.assign Q0) ?_
 refine WA.s (i := 10) Q6 Q0 (Yr.storeB hs Q0 Q0 Q0 Q5 Q3 Q0 (by exact szf40)) (by rintro _ w hs; exact hs.only Q2) ?_
 clear hs; rintro _ w hs
 refine WA.p (i := 11) Q0 Q6 Q6 Q6 Q0 (hs.only Q2) (fun w hs => Yl.assign Q0) ?_
 refine WA.donen Q6 ?_
 refine WC.ret ?_
 refine finT (rs := [.tmp 2, .cell 3 40, .tmp 4]) (vs := [_, _, _]) rfl (by decide) hs (RV.tmp Q0 (RV.cell agg40 Q0 Q1 Q0 (RV.tmp Q0 RV.nil))) ?_
 refine Ret.mk hs ?_
 refine ⟨x3, x4, _, rfl, (by first | exact (show WfI ((x6 - 1)) from ⟨by omega, by omega⟩) | trivial | assumption | exact Flat.any (by assumption) | exact ⟨by omega, by omega⟩ | (show WfS _; unfold WfS; omega) | (show WfS _; unfold WfS; simp only [List.length_append, List.length_cons, List.length_nil] at *; omega) | (refine Ph.old ?_ hs; assumption)), ?_, ?_⟩
 ·
  repeat' apply And.intro
  all_goals (try dsimp only)
  all_goals first | trivial | assumption | omega | ((try simp only [List.length_append, List.length_cons, List.length_nil, lsz_app, lsz_one, lsz_cons, lsz_nil, TAddr.size, TResponse.size, TRequest.size, TPolicy.size, TEntry.size, TCache.size, strsz, TLine.size, TSent.size, TServer.size, TFile.size, List.map_append, List.map_cons, List.map_nil, PServer.lg, PPolicy.lg, PCache.lg] at *); first | omega | assumption)
 ·
  exact hs.fresh2 (x := x3) (F := F3) (y := x4) (G := F4) Q2

theorem c_impl_ColorAt (l : (Sl PSheet)) (b : PBuilder) (n : Int) (w : World) (h_l : Ph.ok w l) (h_b : Ph.ok w b) (h_n : Ph.ok w n)  : Calls Tryz.prog 15 [Sl.v l, .agg #[Sl.v b.nodes, Sl.v b.opn], I n].toArray w (RetP w (I (colorAt (fun nm => colorOf nm l.l) b.nodes.l 40 n))) := by
 have hw := h_b.nodes.lt
 refine enterN 41 Tryz.func15 rfl rfl rfl ?_
 have hs := Sat.start w
 refine WC.seq ?_
 refine WL.r Q0 (Yr.box hs Q0 Q0) ?_
 clear hs; rintro _ w ⟨b1, rfl, hb, hs⟩; clear hb
 refine Qa ?_
 refine WL.next ?_
 refine WC.seq' ?_
 refine WC.seq ?_
 refine Qa ?_
 refine WL.next ?_
 refine WC.block ?_
 refine WC.loopC (ι := Nat × Int) (fun ⟨k, m⟩ => 40 - k) (fun ⟨k, m⟩ => [(7, I (k : Int)), (2, I m)]) (fun _ => []) (fun ⟨k, m⟩ => k ≤ 40 ∧ WfI m ∧ colorAt (fun nm => colorOf nm l.l) b.nodes.l 40 n = colorAt (fun nm => colorOf nm l.l) b.nodes.l (40 - k) m) [(0, _), (1, _), (4, _)] (0, n) (hs) ⟨by rfl, by rfl, by rfl, trivial⟩ ⟨by rfl, by rfl, trivial⟩ ?_ ?_
 ·
  exact ⟨Nat.zero_le _, h_n, rfl⟩
 clear hs; rintro ⟨k, m⟩ w ⟨hJ1, hJ2, hJ3⟩ hs
 simp only [List.nil_append] at hs
 refine WC.seq' ?_
 refine WC.seq ?_
 refine Qm ?_
 refine WL.p Q0 (Yl.lss Q0 Q0) ?_
 refine Qm ?_
 refine WL.split (d := 11) Q0 (fun h1 => ?_) (fun h1 => ?_)
 ·
  replace h1 := of_decide_eq_true h1
  refine WL.run (d := 11) Q0 Q0 ?_
  refine Qm ?_
  refine WL.run (d := 11) Q0 Q0 ?_
  refine WL.p Q0 (Yl.geq Q0 Q0) ?_
  refine WL.p Q0 (Yl.pickT Q0 Q0) ?_
  refine Qm ?_
  refine WL.split (d := 15) Q0 (fun h2 => ?_) (fun h2 => ?_)
  ·
   replace h2 := of_decide_eq_true h2
   refine WL.run (d := 15) Q0 Q0 ?_
   refine Qm ?_
   refine WL.run (d := 15) Q0 Q0 ?_
   refine WL.p Q0 (Yl.fieldAddr fa40_0 Q0) ?_
   refine WL.run (d := 15) Q0 Q0 ?_
   refine WL.p Q0 (Yl.loadB sca37 Q0 hs Q1 Q0) ?_
   refine WL.run (d := 15) Q0 Q0 ?_
   refine WL.p Q0 (Yl.len_sl slu37 Q0) ?_
   refine WL.run (d := 15) Q0 Q0 ?_
   refine WL.p Q0 (Yl.lss Q0 Q0) ?_
   refine WL.p Q0 (Yl.pickT Q0 Q0) ?_
   refine WL.next ?_
   refine WC.condS Q0 (fun h3 => ?_) (fun h3 => ?_)
   ·
    replace h3 := of_decide_eq_true h3
    obtain ⟨x, hx⟩ := exists_get (l := b.nodes.l) (k := m.toNat) Q7
    refine WC.skipn ?_
    refine WC.seq' ?_
    refine WC.block ?_
    refine WC.seq' ?_
    refine WC.seq ?_
    refine Qm ?_
    refine WL.p Q0 (Yl.fieldAddr fa40_0 Q0) ?_
    refine WL.p Q0 (Yl.loadB sca37 Q0 hs Q1 Q0) ?_
    refine Qm ?_
    refine WL.p Q0 (Yl.indexAddr slt37 Q0 Q0 (Ph.old h_b.nodes hs) (by first | rfl | omega) (hx)) ?_
    refine WL.p Q0 (Yl.fieldAddr fa84_0 Q0) ?_
    refine WL.p Q0 (Yl.loadC sca9 Q0 (Sl.Ok.at_ (Ph.old h_b.nodes hs) (by assumption)).2 Q0) ?_
    refine WL.callp hs Q0 (Yc.func Q0 fn14) (c_impl_ColorOf _ _ _ (Ph.old h_l hs)) ?_
    clear hs; intro w hs
    refine Qa ?_
    refine WL.next ?_
    refine WC.seq ?_
    refine Qm ?_
    refine WL.p Q0 (Yl.nei Q0 Q0) ?_
    refine WL.next ?_
    refine WC.condS Q0 (fun h4 => ?_) (fun h4 => ?_)
    ·
     replace h4 := not_eq_true h4
     replace h4 := of_decide_eq_false h4
     refine WC.seq ?_
     refine Qm ?_
     refine Qa ?_
     refine WL.next ?_
     refine WC.ret ?_
     refine At.thenret ?_
     refine At.blockret ?_
     refine At.thenret ?_
     refine At.thenret ?_
     refine At.blockret ?_
     refine At.thenret ?_
     refine fin1' rfl Q0 ?_
     refine RetP.mk hs ?_
     rw [hJ3]
     first
      | rw [colorAt_out (by rintro ⟨a1, a2, a3⟩; omega)]
      | (rw [colorAt_in Q7 hx Q7, if_neg (by assumption)]; done)
      | (rw [colorAt_in Q7 hx Q7, if_neg (by assumption)]; rfl)
    ·
     replace h4 := not_eq_false h4
     replace h4 := of_decide_eq_true h4
     refine WC.skipn ?_
     refine WC.region ?_
     refine WL.p Q0 (Yl.fieldAddr fa40_0 Q0) ?_
     refine WL.p Q0 (Yl.loadB sca37 Q0 hs Q1 Q0) ?_
     refine Qm ?_
     refine WL.p Q0 (Yl.indexAddr slt37 Q0 Q0 (Ph.old h_b.nodes hs) (by first | rfl | omega) (hx)) ?_
     refine WL.p Q0 (Yl.fieldAddr fa84_2 Q0) ?_
     refine WL.p Q0 (Yl.loadC sca3 Q0 (Sl.Ok.at_ (Ph.old h_b.nodes hs) (by assumption)).2 Q0) ?_
     refine Qa ?_
     refine WL.nil ?_
     refine At.blocknormal ?_
     refine At.then_ ?_
     refine WC.region ?_
     refine Qm ?_
     refine WL.p Q0 (Yl.add Q0 Q0 Q7) ?_
     refine Qa ?_
     refine WL.nil ?_
     refine At.roundC (k + 1, x.parent) (hs.only Q2) ⟨by rfl, by rfl, by rfl, trivial⟩ ⟨by rfl, by rfl, trivial⟩ ?_ ?_
     ·
      show 40 - (k + 1) < 40 - k
      omega
     ·
      exact ⟨by omega, (Sl.Ok.elem h_b.nodes hx).parent, by rw [hJ3, colorAt_in Q7 hx Q7, if_pos (by assumption)]⟩
   ·
    replace h3 := of_decide_eq_false h3
    refine WC.exit ?_
    refine At.thenexit ?_
    refine At.thenexit ?_
    refine At.blockexit ?_
    refine At.then_ ?_
    refine WC.seq ?_
    refine Qa ?_
    refine WL.next ?_
    refine WC.ret ?_
    refine fin1' rfl Q0 ?_
    refine RetP.mk hs ?_
    rw [hJ3]
    first
     | rw [colorAt_out (by rintro ⟨a1, a2, a3⟩; omega)]
     | (rw [colorAt_in Q7 hx Q7, if_neg (by assumption)]; done)
     | (rw [colorAt_in Q7 hx Q7, if_neg (by assumption)]; rfl)
  ·
   replace h2 := of_decide_eq_false h2
   refine WL.skip (d := 15) Q0 Q0 Q0 Q0 ?_
   refine WL.skip (d := 15) Q0 Q0 Q0 Q0 ?_
   refine WL.skip (d := 15) Q0 Q0 Q0 Q0 ?_
   refine WL.skip (d := 15) Q0 Q0 Q0 Q0 ?_
   refine WL.skip (d := 15) Q0 Q0 Q0 Q0 ?_
   refine WL.p Q0 (Yl.pickF Q0 Q0) ?_
   refine WL.next ?_
   refine WC.condF Q0 ?_
   refine WC.exit ?_
   refine At.thenexit ?_
   refine At.thenexit ?_
   refine At.blockexit ?_
   refine At.then_ ?_
   refine WC.seq ?_
   refine Qa ?_
   refine WL.next ?_
   refine WC.ret ?_
   refine fin1' rfl Q0 ?_
   refine RetP.mk hs ?_
   rw [hJ3]
   first
    | rw [colorAt_out (by rintro ⟨a1, a2, a3⟩; omega)]
    | (rw [colorAt_in Q7 hx Q7, if_neg (by assumption)]; done)
    | (rw [colorAt_in Q7 hx Q7, if_neg (by assumption)]; rfl)
 ·
  replace h1 := of_decide_eq_false h1
  refine WL.skip (d := 11) Q0 Q0 Q0 Q0 ?_
  refine WL.skip (d := 11) Q0 Q0 Q0 Q0 ?_
  refine WL.p Q0 (Yl.pickF Q0 Q0) ?_
  refine Qm ?_
  refine WL.skip (d := 15) Q0 Q0 Q0 Q0 ?_
  refine WL.skip (d := 15) Q0 Q0 Q0 Q0 ?_
  refine WL.skip (d := 15) Q0 Q0 Q0 Q0 ?_
  refine WL.skip (d := 15) Q0 Q0 Q0 Q0 ?_
  refine WL.skip (d := 15) Q0 Q0 Q0 Q0 ?_
  refine WL.p Q0 (Yl.pickF Q0 Q0) ?_
  refine WL.next ?_
  refine WC.condF Q0 ?_
  refine WC.exit ?_
  refine At.thenexit ?_
  refine At.thenexit ?_
  refine At.blockexit ?_
  refine At.then_ ?_
  refine WC.seq ?_
  refine Qa ?_
  refine WL.next ?_
  refine WC.ret ?_
  refine fin1' rfl Q0 ?_
  refine RetP.mk hs ?_
  rw [hJ3]
  first
   | rw [colorAt_out (by rintro ⟨a1, a2, a3⟩; omega)]
   | (rw [colorAt_in Q7 hx Q7, if_neg (by assumption)]; done)
   | (rw [colorAt_in Q7 hx Q7, if_neg (by assumption)]; rfl)

theorem c_spec_ColorOf (l : (Sl PSheet)) (name : Str) (w : World) (h_l : Ph.ok w l)  : Calls Tryz.prog 47 [Sl.v l, S name].toArray w (RetP w (I (colorOf name l.l))) := by
 have hw := h_l.lt
 refine enterN 45 Tryz.func47 rfl rfl rfl ?_
 have hs := Sat.start w
 refine WC.seq ?_
 refine Qa ?_
 refine WL.next ?_
 refine WC.seq' ?_
 refine WC.seq ?_
 refine Qm ?_
 refine WL.p Q0 (Yl.len_sl slu30 Q0) ?_
 refine WL.p Q0 (Yl.sub_ Q0 Q0 Q7) ?_
 refine Qa ?_
 refine WL.next ?_
 refine WC.block ?_
 refine WC.loopC (ι := Nat) (fun k => k) (fun k => [(5, I ((k : Int) - 1))]) (fun _ => []) (fun k => k ≤ l.l.length ∧ colSR name l.l.reverse = colSR name (l.l.take k).reverse) [(0, _), (1, _)] l.l.length (hs) ⟨by rfl, by rfl, trivial⟩ ⟨by rfl, trivial⟩ ?_ ?_
 ·
  exact ⟨Nat.le_refl _, by rw [List.take_length]⟩
 clear hs; rintro k w ⟨hJ1, hJ2⟩ hs
 simp only [List.nil_append] at hs
 have hd2x : ∃ d : PSheet, k ≠ 0 → l.l[k - 1]? = some d := by
  by_cases h9 : k = 0
  · exact ⟨⟨⟨[], none, 0⟩⟩, fun h => absurd h9 h⟩
  · exact ⟨l.l[k - 1]'Q7, fun _ => List.getElem?_eq_getElem Q7⟩
 obtain ⟨d, hd⟩ := hd2x
 refine WC.seq' ?_
 refine WC.seq ?_
 refine Qm ?_
 refine WL.p Q0 (Yl.geq Q0 Q0) ?_
 refine WL.next ?_
 refine WC.condS Q0 (fun h1 => ?_) (fun h1 => ?_)
 ·
  replace h1 := of_decide_eq_true h1
  have hwd := (Sl.Ok.elem h_l (hd Q7)).rules.lt
  refine WC.skipn ?_
  refine WC.seq' ?_
  refine WC.block ?_
  refine WC.seq ?_
  refine Qm ?_
  refine Qm ?_
  refine WL.p Q0 (Yl.indexAddr slt30 Q0 Q0 (Ph.old h_l hs) (by first | rfl | omega) ((hd Q7))) ?_
  refine WL.p Q0 (Yl.fieldAddr fa27_0 Q0) ?_
  refine WL.p Q0 (Yl.loadC sca25 Q0 (Sl.Ok.at_ (Ph.old h_l hs) ((hd Q7))).2 Q0) ?_
  refine WL.p Q0 (Yl.len_sl slu25 Q0) ?_
  refine WL.p Q0 (Yl.sub_ Q0 Q0 Q7) ?_
  refine Qa ?_
  refine WL.next ?_
  refine WC.block ?_
  refine WC.loopC (ι := Nat) (fun m => m) (fun m => [(6, I ((m : Int) - 1))]) (fun _ => []) (fun m => m ≤ d.rules.l.length ∧ colR name d.rules.l.reverse = colR name (d.rules.l.take m).reverse) [(0, _), (1, _), (5, _), (11, _)] d.rules.l.length (hs) ⟨by rfl, by rfl, by rfl, by rfl, trivial⟩ ⟨by rfl, trivial⟩ ?_ ?_
  ·
   exact ⟨Nat.le_refl _, by rw [List.take_length]⟩
  clear hs; rintro m w ⟨hI1, hI2⟩ hs
  simp only [List.nil_append] at hs
  have hd3x : ∃ x : TRule, m ≠ 0 → d.rules.l[m - 1]? = some x := by
   by_cases h9 : m = 0
   · exact ⟨⟨[], 0⟩, fun h => absurd h9 h⟩
   · exact ⟨d.rules.l[m - 1]'Q7, fun _ => List.getElem?_eq_getElem Q7⟩
  obtain ⟨x, hx⟩ := hd3x
  refine WC.seq' ?_
  refine WC.seq ?_
  refine Qm ?_
  refine WL.p Q0 (Yl.geq Q0 Q0) ?_
  refine WL.next ?_
  refine WC.condS Q0 (fun h2 => ?_) (fun h2 => ?_)
  ·
   replace h2 := of_decide_eq_true h2
   refine WC.skipn ?_
   refine WC.seq' ?_
   refine WC.block ?_
   refine WC.seq ?_
   refine Qm ?_
   refine Qm ?_
   refine WL.p Q0 (Yl.indexAddr slt30 Q0 Q0 (Ph.old h_l hs) (by first | rfl | omega) ((hd Q7))) ?_
   refine WL.p Q0 (Yl.fieldAddr fa27_0 Q0) ?_
   refine WL.p Q0 (Yl.loadC sca25 Q0 (Sl.Ok.at_ (Ph.old h_l hs) ((hd Q7))).2 Q0) ?_
   refine Qm ?_
   refine WL.p Q0 (Yl.indexAddr slt25 Q0 Q0 (Ph.old (Sl.Ok.elem h_l (hd Q7)).rules hs) (by first | rfl | omega) ((hx Q7))) ?_
   refine WL.p Q0 (Yl.fieldAddr fa36_0 Q0) ?_
   refine WL.p Q0 (Yl.loadC sca9 Q0 (Sl.Ok.at_ (Ph.old (Sl.Ok.elem h_l (hd Q7)).rules hs) ((hx Q7))).2 Q0) ?_
   refine Qm ?_
   refine WL.p Q0 (Yl.eqs Q0 Q0) ?_
   refine WL.next ?_
   refine WC.condS Q0 (fun h3 => ?_) (fun h3 => ?_)
   ·
    replace h3 := of_decide_eq_true h3
    refine WC.seq ?_
    refine Qm ?_
    refine Qm ?_
    refine WL.p Q0 (Yl.indexAddr slt30 Q0 Q0 (Ph.old h_l hs) (by first | rfl | omega) ((hd Q7))) ?_
    refine WL.p Q0 (Yl.fieldAddr fa27_0 Q0) ?_
    refine WL.p Q0 (Yl.loadC sca25 Q0 (Sl.Ok.at_ (Ph.old h_l hs) ((hd Q7))).2 Q0) ?_
    refine Qm ?_
    refine WL.p Q0 (Yl.indexAddr slt25 Q0 Q0 (Ph.old (Sl.Ok.elem h_l (hd Q7)).rules hs) (by first | rfl | omega) ((hx Q7))) ?_
    refine WL.p Q0 (Yl.fieldAddr fa36_1 Q0) ?_
    refine WL.p Q0 (Yl.loadC sca3 Q0 (Sl.Ok.at_ (Ph.old (Sl.Ok.elem h_l (hd Q7)).rules hs) ((hx Q7))).2 Q0) ?_
    refine Qa ?_
    refine WL.next ?_
    refine WC.ret ?_
    refine At.blockret ?_
    refine At.thenret ?_
    refine At.thenret ?_
    refine At.blockret ?_
    refine At.blockret ?_
    refine At.thenret ?_
    refine At.thenret ?_
    refine At.blockret ?_
    refine At.thenret ?_
    refine fin1' rfl Q0 ?_
    refine RetP.mk hs ?_
    rw [colorOf, hJ2, colSR_some Q7 (hd Q7) (hI2.trans (colR_yes Q7 (hx Q7) (by assumption)))]; rfl
   ·
    replace h3 := of_decide_eq_false h3
    refine WC.skip ?_
    refine At.blocknormal ?_
    refine At.then_ ?_
    refine WC.region ?_
    refine Qm ?_
    refine WL.p Q0 (Yl.sub_ Q0 Q0 Q7) ?_
    refine Qa ?_
    refine WL.nil ?_
    refine At.roundC (m - 1) (hs.only Q2) ⟨by rfl, by rfl, by rfl, by rfl, trivial⟩ ⟨by exact congrArg (fun z => some (I z)) Q7, trivial⟩ ?_ ?_
    ·
     omega
    ·
     exact ⟨by omega, by rw [hI2]; exact colR_no Q7 (hx Q7) (by assumption)⟩
  ·
   replace h2 := of_decide_eq_false h2
   refine WC.exit ?_
   refine At.thenexit ?_
   refine At.thenexit ?_
   refine At.blockexit ?_
   refine At.blocknormal ?_
   refine At.then_ ?_
   refine WC.region ?_
   refine Qm ?_
   refine WL.p Q0 (Yl.sub_ Q0 Q0 Q7) ?_
   refine Qa ?_
   refine WL.nil ?_
   refine At.roundC (k - 1) (hs.only Q2) ⟨by rfl, by rfl, trivial⟩ ⟨by exact congrArg (fun z => some (I z)) Q7, trivial⟩ ?_ ?_
   ·
    omega
   ·
    exact ⟨by omega, by rw [hJ2]; exact colSR_none Q7 (hd Q7) (by rw [hI2, show m = 0 from by omega]; rfl)⟩
 ·
  replace h1 := of_decide_eq_false h1
  refine WC.exit ?_
  refine At.thenexit ?_
  refine At.thenexit ?_
  refine At.blockexit ?_
  refine At.then_ ?_
  refine WC.seq ?_
  refine Qa ?_
  refine WL.next ?_
  refine WC.ret ?_
  refine fin1' rfl Q0 ?_
  refine RetP.mk hs ?_
  rw [colorOf, hJ2, show k = 0 from by omega]; rfl

theorem c_spec_ColorAt (l : (Sl PSheet)) (b : PBuilder) (n : Int) (w : World) (h_l : Ph.ok w l) (h_b : Ph.ok w b) (h_n : Ph.ok w n)  : Calls Tryz.prog 16 [Sl.v l, .agg #[Sl.v b.nodes, Sl.v b.opn], I n].toArray w (RetP w (I (colorAt (fun nm => colorOf nm l.l) b.nodes.l 40 n))) := by
 have hw := h_b.nodes.lt
 refine enterN 38 Tryz.func16 rfl rfl rfl ?_
 have hs := Sat.start w
 refine WC.seq ?_
 refine WL.r Q0 (Yr.box hs Q0 Q0) ?_
 clear hs; rintro _ w ⟨b1, rfl, hb, hs⟩; clear hb
 refine Qa ?_
 refine WL.next ?_
 refine WC.seq' ?_
 refine WC.seq ?_
 refine Qa ?_
 refine WL.next ?_
 refine WC.block ?_
 refine WC.loopC (ι := Nat × Int) (fun ⟨k, m⟩ => 40 - k) (fun ⟨k, m⟩ => [(7, I (k : Int)), (2, I m)]) (fun _ => []) (fun ⟨k, m⟩ => k ≤ 40 ∧ WfI m ∧ colorAt (fun nm => colorOf nm l.l) b.nodes.l 40 n = colorAt (fun nm => colorOf nm l.l) b.nodes.l (40 - k) m) [(0, _), (1, _), (4, _)] (0, n) (hs) ⟨by rfl, by rfl, by rfl, trivial⟩ ⟨by rfl, by rfl, trivial⟩ ?_ ?_
 ·
  exact ⟨Nat.zero_le _, h_n, rfl⟩
 clear hs; rintro ⟨k, m⟩ w ⟨hJ1, hJ2, hJ3⟩ hs
 simp only [List.nil_append] at hs
 refine WC.seq' ?_
 refine WC.seq ?_
 refine Qm ?_
 refine WL.p Q0 (Yl.lss Q0 Q0) ?_
 refine Qm ?_
 refine WL.split (d := 11) Q0 (fun h1 => ?_) (fun h1 => ?_)
 ·
  replace h1 := of_decide_eq_true h1
  refine WL.run (d := 11) Q0 Q0 ?_
  refine Qm ?_
  refine WL.run (d := 11) Q0 Q0 ?_
  refine WL.p Q0 (Yl.fieldAddr fa40_0 Q0) ?_
  refine WL.run (d := 11) Q0 Q0 ?_
  refine WL.p Q0 (Yl.loadB sca37 Q0 hs Q1 Q0) ?_
  refine WL.run (d := 11) Q0 Q0 ?_
  refine WL.p Q0 (Yl.len_sl slu37 Q0) ?_
  refine WL.run (d := 11) Q0 Q0 ?_
  refine WL.p Q0 (Yl.sub_ Q0 Q0 Q7) ?_
  refine WL.run (d := 11) Q0 Q0 ?_
  refine WL.callp hs Q0 (Yc.func Q0 fn39) (c_spec_l1In _ _ _ _) ?_
  clear hs; intro w hs
  refine WL.p Q0 (Yl.pickT Q0 Q0) ?_
  refine WL.next ?_
  refine WC.condS Q0 (fun h2 => ?_) (fun h2 => ?_)
  ·
   replace h2 := inR_true.1 h2
   obtain ⟨x, hx⟩ := exists_get (l := b.nodes.l) (k := m.toNat) Q7
   refine WC.skipn ?_
   refine WC.seq' ?_
   refine WC.block ?_
   refine WC.seq' ?_
   refine WC.seq ?_
   refine Qm ?_
   refine WL.p Q0 (Yl.fieldAddr fa40_0 Q0) ?_
   refine WL.p Q0 (Yl.loadB sca37 Q0 hs Q1 Q0) ?_
   refine Qm ?_
   refine WL.p Q0 (Yl.indexAddr slt37 Q0 Q0 (Ph.old h_b.nodes hs) (by first | rfl | omega) (hx)) ?_
   refine WL.p Q0 (Yl.fieldAddr fa84_0 Q0) ?_
   refine WL.p Q0 (Yl.loadC sca9 Q0 (Sl.Ok.at_ (Ph.old h_b.nodes hs) (by assumption)).2 Q0) ?_
   refine WL.callp hs Q0 (Yc.func Q0 fn47) (c_spec_ColorOf _ _ _ (Ph.old h_l hs)) ?_
   clear hs; intro w hs
   refine Qa ?_
   refine WL.next ?_
   refine WC.seq ?_
   refine Qm ?_
   refine WL.p Q0 (Yl.nei Q0 Q0) ?_
   refine WL.next ?_
   refine WC.condS Q0 (fun h3 => ?_) (fun h3 => ?_)
   ·
    replace h3 := not_eq_true h3
    replace h3 := of_decide_eq_false h3
    refine WC.seq ?_
    refine Qm ?_
    refine Qa ?_
    refine WL.next ?_
    refine WC.ret ?_
    refine At.thenret ?_
    refine At.blockret ?_
    refine At.thenret ?_
    refine At.thenret ?_
    refine At.blockret ?_
    refine At.thenret ?_
    refine fin1' rfl Q0 ?_
    refine RetP.mk hs ?_
    rw [hJ3]
    first
     | rw [colorAt_out (by rintro ⟨a1, a2, a3⟩; omega)]
     | (rw [colorAt_in Q7 hx Q7, if_neg (by assumption)]; done)
     | (rw [colorAt_in Q7 hx Q7, if_neg (by assumption)]; rfl)
   ·
    replace h3 := not_eq_false h3
    replace h3 := of_decide_eq_true h3
    refine WC.skipn ?_
    refine WC.region ?_
    refine WL.p Q0 (Yl.fieldAddr fa40_0 Q0) ?_
    refine WL.p Q0 (Yl.loadB sca37 Q0 hs Q1 Q0) ?_
    refine Qm ?_
    refine WL.p Q0 (Yl.indexAddr slt37 Q0 Q0 (Ph.old h_b.nodes hs) (by first | rfl | omega) (hx)) ?_
    refine WL.p Q0 (Yl.fieldAddr fa84_2 Q0) ?_
    refine WL.p Q0 (Yl.loadC sca3 Q0 (Sl.Ok.at_ (Ph.old h_b.nodes hs) (by assumption)).2 Q0) ?_
    refine Qa ?_
    refine WL.nil ?_
    refine At.blocknormal ?_
    refine At.then_ ?_
    refine WC.region ?_
    refine Qm ?_
    refine WL.p Q0 (Yl.add Q0 Q0 Q7) ?_
    refine Qa ?_
    refine WL.nil ?_
    refine At.roundC (k + 1, x.parent) (hs.only Q2) ⟨by rfl, by rfl, by rfl, trivial⟩ ⟨by rfl, by rfl, trivial⟩ ?_ ?_
    ·
     show 40 - (k + 1) < 40 - k
     omega
    ·
     exact ⟨by omega, (Sl.Ok.elem h_b.nodes hx).parent, by rw [hJ3, colorAt_in Q7 hx Q7, if_pos (by assumption)]⟩
  ·
   replace h2 := inR_false.1 h2
   refine WC.exit ?_
   refine At.thenexit ?_
   refine At.thenexit ?_
   refine At.blockexit ?_
   refine At.then_ ?_
   refine WC.seq ?_
   refine Qa ?_
   refine WL.next ?_
   refine WC.ret ?_
   refine fin1' rfl Q0 ?_
   refine RetP.mk hs ?_
   rw [hJ3]
   first
    | rw [colorAt_out (by rintro ⟨a1, a2, a3⟩; omega)]
    | (rw [colorAt_in Q7 hx Q7, if_neg (by assumption)]; done)
    | (rw [colorAt_in Q7 hx Q7, if_neg (by assumption)]; rfl)
 ·
  replace h1 := of_decide_eq_false h1
  refine WL.skip (d := 11) Q0 Q0 Q0 Q0 ?_
  refine WL.skip (d := 11) Q0 Q0 Q0 Q0 ?_
  refine WL.skip (d := 11) Q0 Q0 Q0 Q0 ?_
  refine WL.skip (d := 11) Q0 Q0 Q0 Q0 ?_
  refine WL.skip (d := 11) Q0 Q0 Q0 Q0 ?_
  refine WL.skip (d := 11) Q0 Q0 Q0 Q0 ?_
  refine WL.p Q0 (Yl.pickF Q0 Q0) ?_
  refine WL.next ?_
  refine WC.condF Q0 ?_
  refine WC.exit ?_
  refine At.thenexit ?_
  refine At.thenexit ?_
  refine At.blockexit ?_
  refine At.then_ ?_
  refine WC.seq ?_
  refine Qa ?_
  refine WL.next ?_
  refine WC.ret ?_
  refine fin1' rfl Q0 ?_
  refine RetP.mk hs ?_
  rw [hJ3]
  first
   | rw [colorAt_out (by rintro ⟨a1, a2, a3⟩; omega)]
   | (rw [colorAt_in Q7 hx Q7, if_neg (by assumption)]; done)
   | (rw [colorAt_in Q7 hx Q7, if_neg (by assumption)]; rfl)

end Go.Sw
