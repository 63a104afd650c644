/- Walks: what each function of the program returns, for every input. Printed by gen.py. -/
import Derived.Test.YtpnmdcomdakdmaaGreatDoorW0
set_option linter.all false
namespace Go.Sw
open Go Go.RowKit Go.Proofs

theorem c_spec_DrawCheckResponse (code : (Sl UInt8)) (w : World) (h_code : Ph.ok w code)  : Calls Tryz.prog 60 [Sl.v code].toArray w (Ret w (fun v w' => ∃ (p : PPolicy) (r : TRequest) (x : TResponse), v = .tuple #[.agg (Ph.enc p).toArray, .agg (Ph.enc r).toArray, .agg (Ph.enc x).toArray] ∧ (Ph.ok w' r ∧ Ph.ok w' x) ∧ (p.lg.size ≤ 100 ∧ x.size ≤ 1500) ∧ Fresh w p w')) := by
 refine enterN 35 Tryz.func60 rfl rfl rfl ?_
 have hs := Sat.start w
 refine WC.seq ?_
 refine WL.r Q0 (Yr.alloc hs zt108) ?_
 clear hs; rintro _ w ⟨b1, rfl, hb, hs⟩; clear hb
 refine WL.r Q0 (Yr.alloc hs zt110) ?_
 clear hs; rintro _ w ⟨b2, rfl, hb, hs⟩; clear hb
 refine WL.r Q0 (Yr.alloc hs zt72) ?_
 clear hs; rintro _ w ⟨b3, rfl, hb, hs⟩; clear hb
 refine WL.next ?_
 refine WC.seq ?_
 refine Qm ?_
 refine WL.calln hs Q0 (Yc.func Q0 fn83) (c_spec_l1New _ _ (Ph.old h_code hs)) ?_
 clear hs; intro c4 w hs
 refine Qa ?_
 refine WL.next ?_
 refine WC.seq ?_
 refine Qm ?_
 refine WL.calld hs (T := 205) (b := code) (c := c4) Q2 Q0 (Yc.func Q0 fn156) (c_spec_l9Policy c4 code _ (hs.cur Q1) (Apart.new (by first | assumption) hs Q1)) ?_
 clear hs; intro v w ho hR hs
 obtain ⟨x5, rfl, _, hx5, hf5⟩ := hR
 obtain ⟨F5, hs⟩ := hs.addF ho hf5
 clear ho hf5
 refine WL.r Q0 (Yr.alloc hs zt108) ?_
 clear hs; rintro _ w ⟨b6, rfl, hb, hs⟩; clear hb
 refine WL.s (Yr.storeB hs Q0 Q0 Q0 Q5 Q3 Q0 (by exact szf108)) ?_
 clear hs; rintro _ w hs
 refine WL.next ?_
 refine WC.seq ?_
 refine Qm ?_
 refine WL.calld hs (T := 205) (b := code) (c := c4) Q2 Q0 (Yc.func Q0 fn157) (c_spec_l11Any c4 code _ (hs.cur Q1) (Apart.new (by first | assumption) hs Q1)) ?_
 clear hs; intro v w ho hR hs
 obtain ⟨x7, rfl, hokx7, hx7, hf7⟩ := hR
 clear ho hf7
 refine WL.r Q0 (Yr.alloc hs zt110) ?_
 clear hs; rintro _ w ⟨b8, rfl, hb, hs⟩; clear hb
 refine WL.s (Yr.storeB hs Q0 Q0 Q0 Q5 Q3 Q0 (by exact szf110)) ?_
 clear hs; rintro _ w hs
 refine WL.next ?_
 refine WC.seq ?_
 refine Qm ?_
 refine WL.p Q0 (Yl.fieldAddr fa110_0 Q0) ?_
 refine WL.p Q0 (Yl.loadB sca3 Q0 hs Q1 Q0) ?_
 refine WL.calld hs (T := 205) (b := code) (c := c4) Q2 Q0 (Yc.func Q0 fn158) (c_spec_l10Response c4 code _ _ (Flat.any hokx7).kind (hs.cur Q1) (Apart.new (by first | assumption) hs Q1)) ?_
 clear hs; intro v w ho hR hs
 obtain ⟨x9, rfl, hokx9, hx9, hf9⟩ := hR
 clear ho hf9
 have hn9 := hx9.1
 refine WL.r Q0 (Yr.alloc hs zt72) ?_
 clear hs; rintro _ w ⟨b10, rfl, hb, hs⟩; clear hb
 refine WL.s (Yr.storeB hs Q0 Q0 Q0 Q5 Q3 Q0 (by exact szf72)) ?_
 clear hs; rintro _ w hs
 refine WL.next ?_
 refine WC.seq' ?_
 refine WC.seq ?_
 refine Qm ?_
 refine WL.calld hs (T := 205) (b := code) (c := c4) Q2 Q0 (Yc.func Q0 fn118) (c_spec_l1Below c4 code _ _ (hs.cur Q1) (Apart.new (by first | assumption) hs Q1)) ?_
 clear hs; intro v w ho hR hs
 obtain ⟨x11, rfl, hokx11, hx11, hf11⟩ := hR
 clear ho hf11
 replace hx11 : 0 ≤ x11 ∧ x11 < 5 := ⟨hx11.1, hx11.2.2 (by decide)⟩
 refine WL.next ?_
 refine WC.block ?_
 refine WC.seq ?_
 refine WL.p Q0 (Yl.eqi Q0 Q0) ?_
 refine Qa ?_
 refine WL.next ?_
 refine WC.condS Q0 (fun h1 => ?_) (fun h1 => ?_)
 ·
  replace h1 := of_decide_eq_true h1
  refine WC.region ?_
  refine Qm ?_
  refine WL.calld hs (T := 205) (b := code) (c := c4) Q2 Q0 (Yc.func Q0 fn159) (c_spec_l10Any c4 code _ (hs.cur Q1) (Apart.new (by first | assumption) hs Q1)) ?_
  clear hs; intro v w ho hR hs
  obtain ⟨x12, rfl, hokx12, hx12, hf12⟩ := hR
  clear ho hf12
  refine WL.s (Yr.storeB hs Q0 Q0 Q0 Q5 Q3 Q0 (by exact szf72)) ?_
  clear hs; rintro _ w hs
  refine WL.nil ?_
  refine At.blocknormal ?_
  refine At.then_ ?_
  refine WC.anynX (K := [box b1 _ _, box b2 _ _, box b3 _ _]) mixed hs Q2 ?_
  clear hs; intro w hs
  refine WA.p (i := 0) Q0 Q6 Q6 Q6 Q0 (hs.only Q2) (fun w hs => Yl.loadAB agg108 Q0 hs Q1 Q0 Q0) ?_
  refine WA.p (i := 1) Q0 Q6 Q6 Q6 Q0 (hs.only Q2) (fun w hs => Yl.loadAB agg110 Q0 hs Q1 Q0 Q0) ?_
  refine WA.p (i := 2) Q0 Q6 Q6 Q6 Q0 (hs.only Q2) (fun w hs => Yl.loadAB agg72 Q0 hs Q1 Q0 Q0) ?_
  refine WA.s (i := 3) Q6 Q0 (Yr.storeB hs Q0 Q0 Q0 Q5 Q3 Q0 (by exact szf108)) (by rintro _ w hs; exact hs.only Q2) ?_
  clear hs; rintro _ w hs
  refine WA.s (i := 4) Q6 Q0 (Yr.storeB hs Q0 Q0 Q0 Q5 Q3 Q0 (by exact szf110)) (by rintro _ w hs; exact hs.only Q2) ?_
  clear hs; rintro _ w hs
  refine WA.s (i := 5) Q6 Q0 (Yr.storeB hs Q0 Q0 Q0 Q5 Q3 Q0 (by exact szf72)) (by rintro _ w hs; exact hs.only Q2) ?_
  clear hs; rintro _ w hs
  refine WA.donen Q6 ?_
  refine WC.ret ?_
  refine finT (rs := [.cell 2 108, .cell 3 110, .cell 4 72]) (vs := [_, _, _]) rfl (by decide) hs (RV.cell agg108 Q0 Q1 Q0 (RV.cell agg110 Q0 Q1 Q0 (RV.cell agg72 Q0 Q1 Q0 RV.nil))) ?_
  refine Ret.mk hs ?_
  refine ⟨x5, (⟨x7.kind, (⟨x7.to.host, x7.to.path⟩ : TAddr), x7.frm, x7.digest⟩ : TRequest), (⟨x12.status, x12.kind, x12.body, x12.age, x12.shares, x12.policy⟩ : TResponse), rfl, ⟨⟨(by first | exact itoa_wf (digestN_wf _) | exact (Flat.any hokx7).kind | trivial | assumption | exact Flat.any (by assumption) | exact ⟨by omega, by omega⟩ | (show WfS _; unfold WfS; omega) | (show WfS _; unfold WfS; simp only [List.length_append, List.length_cons, List.length_nil] at *; omega) | (refine Ph.old ?_ hs; assumption)), ⟨(by first | exact itoa_wf (digestN_wf _) | exact (Flat.any hokx7).to.host | trivial | assumption | exact Flat.any (by assumption) | exact ⟨by omega, by omega⟩ | (show WfS _; unfold WfS; omega) | (show WfS _; unfold WfS; simp only [List.length_append, List.length_cons, List.length_nil] at *; omega) | (refine Ph.old ?_ hs; assumption)), (by first | exact itoa_wf (digestN_wf _) | exact (Flat.any hokx7).to.path | trivial | assumption | exact Flat.any (by assumption) | exact ⟨by omega, by omega⟩ | (show WfS _; unfold WfS; omega) | (show WfS _; unfold WfS; simp only [List.length_append, List.length_cons, List.length_nil] at *; omega) | (refine Ph.old ?_ hs; assumption))⟩, (by first | exact itoa_wf (digestN_wf _) | exact (Flat.any hokx7).frm | trivial | assumption | exact Flat.any (by assumption) | exact ⟨by omega, by omega⟩ | (show WfS _; unfold WfS; omega) | (show WfS _; unfold WfS; simp only [List.length_append, List.length_cons, List.length_nil] at *; omega) | (refine Ph.old ?_ hs; assumption)), (by first | exact itoa_wf (digestN_wf _) | exact (Flat.any hokx7).digest | trivial | assumption | exact Flat.any (by assumption) | exact ⟨by omega, by omega⟩ | (show WfS _; unfold WfS; omega) | (show WfS _; unfold WfS; simp only [List.length_append, List.length_cons, List.length_nil] at *; omega) | (refine Ph.old ?_ hs; assumption))⟩, ⟨(by first | exact itoa_wf (digestN_wf _) | exact (Flat.any hokx12).status | trivial | assumption | exact Flat.any (by assumption) | exact ⟨by omega, by omega⟩ | (show WfS _; unfold WfS; omega) | (show WfS _; unfold WfS; simp only [List.length_append, List.length_cons, List.length_nil] at *; omega) | (refine Ph.old ?_ hs; assumption)), (by first | exact itoa_wf (digestN_wf _) | exact (Flat.any hokx12).kind | trivial | assumption | exact Flat.any (by assumption) | exact ⟨by omega, by omega⟩ | (show WfS _; unfold WfS; omega) | (show WfS _; unfold WfS; simp only [List.length_append, List.length_cons, List.length_nil] at *; omega) | (refine Ph.old ?_ hs; assumption)), (by first | exact itoa_wf (digestN_wf _) | exact (Flat.any hokx12).body | trivial | assumption | exact Flat.any (by assumption) | exact ⟨by omega, by omega⟩ | (show WfS _; unfold WfS; omega) | (show WfS _; unfold WfS; simp only [List.length_append, List.length_cons, List.length_nil] at *; omega) | (refine Ph.old ?_ hs; assumption)), (by first | exact itoa_wf (digestN_wf _) | exact (Flat.any hokx12).age | trivial | assumption | exact Flat.any (by assumption) | exact ⟨by omega, by omega⟩ | (show WfS _; unfold WfS; omega) | (show WfS _; unfold WfS; simp only [List.length_append, List.length_cons, List.length_nil] at *; omega) | (refine Ph.old ?_ hs; assumption)), (by first | exact itoa_wf (digestN_wf _) | exact (Flat.any hokx12).shares | trivial | assumption | exact Flat.any (by assumption) | exact ⟨by omega, by omega⟩ | (show WfS _; unfold WfS; omega) | (show WfS _; unfold WfS; simp only [List.length_append, List.length_cons, List.length_nil] at *; omega) | (refine Ph.old ?_ hs; assumption)), (by first | exact itoa_wf (digestN_wf _) | exact (Flat.any hokx12).policy | trivial | assumption | exact Flat.any (by assumption) | exact ⟨by omega, by omega⟩ | (show WfS _; unfold WfS; omega) | (show WfS _; unfold WfS; simp only [List.length_append, List.length_cons, List.length_nil] at *; omega) | (refine Ph.old ?_ hs; assumption))⟩⟩, ?_, ?_⟩
  ·
   repeat' apply And.intro
   all_goals (try dsimp only)
   all_goals first | trivial | assumption | omega | ((try simp only [List.length_append, List.length_cons, List.length_nil, lsz_app, lsz_one, lsz_cons, lsz_nil, TAddr.size, TResponse.size, TRequest.size, TPolicy.size, TEntry.size, TCache.size, strsz, TServer.size, TFile.size, List.map_append, List.map_cons, List.map_nil, PServer.lg, PPolicy.lg, PCache.lg] at *); first | omega | assumption)
  ·
   exact hs.fresh (x := x5) (F := F5) Q1
 ·
  replace h1 := of_decide_eq_false h1
  refine WC.seq ?_
  refine WL.p Q0 (Yl.eqi Q0 Q0) ?_
  refine Qa ?_
  refine WL.next ?_
  refine WC.condS Q0 (fun h2 => ?_) (fun h2 => ?_)
  ·
   replace h2 := of_decide_eq_true h2
   refine WC.region ?_
   refine WL.p Q0 (Yl.fieldAddr fa72_2 Q0) ?_
   refine WL.p Q0 (Yl.loadB sca9 Q0 hs Q1 Q0) ?_
   refine WL.callp hs Q0 (Yc.func Q0 fn69) (c_spec_DigestOf _ _ (Flat.any hokx9).body (by simp only [TResponse.size] at *; omega)) ?_
   clear hs; intro w hs
   refine WL.callp hs Q0 (Yc.func Q0 fn68) (c_spec_FormatInt _ _ (digestN_wf _)) ?_
   clear hs; intro w hs
   refine WL.p Q0 (Yl.fieldAddr fa110_3 Q0) ?_
   refine WL.s (Yr.storeB hs Q0 Q0 Q0 Q5 Q3 Q0 (by exact szf9)) ?_
   clear hs; rintro _ w hs
   refine WL.nil ?_
   refine At.blocknormal ?_
   refine At.then_ ?_
   refine WC.anynX (K := [box b1 _ _, box b2 _ _, box b3 _ _]) mixed hs Q2 ?_
   clear hs; intro w hs
   refine WA.p (i := 0) Q0 Q6 Q6 Q6 Q0 (hs.only Q2) (fun w hs => Yl.loadAB agg108 Q0 hs Q1 Q0 Q0) ?_
   refine WA.p (i := 1) Q0 Q6 Q6 Q6 Q0 (hs.only Q2) (fun w hs => Yl.loadAB agg110 Q0 hs Q1 Q0 Q0) ?_
   refine WA.p (i := 2) Q0 Q6 Q6 Q6 Q0 (hs.only Q2) (fun w hs => Yl.loadAB agg72 Q0 hs Q1 Q0 Q0) ?_
   refine WA.s (i := 3) Q6 Q0 (Yr.storeB hs Q0 Q0 Q0 Q5 Q3 Q0 (by exact szf108)) (by rintro _ w hs; exact hs.only Q2) ?_
   clear hs; rintro _ w hs
   refine WA.s (i := 4) Q6 Q0 (Yr.storeB hs Q0 Q0 Q0 Q5 Q3 Q0 (by exact szf110)) (by rintro _ w hs; exact hs.only Q2) ?_
   clear hs; rintro _ w hs
   refine WA.s (i := 5) Q6 Q0 (Yr.storeB hs Q0 Q0 Q0 Q5 Q3 Q0 (by exact szf72)) (by rintro _ w hs; exact hs.only Q2) ?_
   clear hs; rintro _ w hs
   refine WA.donen Q6 ?_
   refine WC.ret ?_
   refine finT (rs := [.cell 2 108, .cell 3 110, .cell 4 72]) (vs := [_, _, _]) rfl (by decide) hs (RV.cell agg108 Q0 Q1 Q0 (RV.cell agg110 Q0 Q1 Q0 (RV.cell agg72 Q0 Q1 Q0 RV.nil))) ?_
   refine Ret.mk hs ?_
   refine ⟨x5, (⟨x7.kind, (⟨x7.to.host, x7.to.path⟩ : TAddr), x7.frm, (Lib.itoa (digestN x9.body))⟩ : TRequest), (⟨x9.status, x9.kind, x9.body, x9.age, x9.shares, x9.policy⟩ : TResponse), rfl, ⟨⟨(by first | exact itoa_wf (digestN_wf _) | exact (Flat.any hokx7).kind | trivial | assumption | exact Flat.any (by assumption) | exact ⟨by omega, by omega⟩ | (show WfS _; unfold WfS; omega) | (show WfS _; unfold WfS; simp only [List.length_append, List.length_cons, List.length_nil] at *; omega) | (refine Ph.old ?_ hs; assumption)), ⟨(by first | exact itoa_wf (digestN_wf _) | exact (Flat.any hokx7).to.host | trivial | assumption | exact Flat.any (by assumption) | exact ⟨by omega, by omega⟩ | (show WfS _; unfold WfS; omega) | (show WfS _; unfold WfS; simp only [List.length_append, List.length_cons, List.length_nil] at *; omega) | (refine Ph.old ?_ hs; assumption)), (by first | exact itoa_wf (digestN_wf _) | exact (Flat.any hokx7).to.path | trivial | assumption | exact Flat.any (by assumption) | exact ⟨by omega, by omega⟩ | (show WfS _; unfold WfS; omega) | (show WfS _; unfold WfS; simp only [List.length_append, List.length_cons, List.length_nil] at *; omega) | (refine Ph.old ?_ hs; assumption))⟩, (by first | exact itoa_wf (digestN_wf _) | exact (Flat.any hokx7).frm | trivial | assumption | exact Flat.any (by assumption) | exact ⟨by omega, by omega⟩ | (show WfS _; unfold WfS; omega) | (show WfS _; unfold WfS; simp only [List.length_append, List.length_cons, List.length_nil] at *; omega) | (refine Ph.old ?_ hs; assumption)), (by first | exact itoa_wf (digestN_wf _) | trivial | assumption | exact Flat.any (by assumption) | exact ⟨by omega, by omega⟩ | (show WfS _; unfold WfS; omega) | (show WfS _; unfold WfS; simp only [List.length_append, List.length_cons, List.length_nil] at *; omega) | (refine Ph.old ?_ hs; assumption))⟩, ⟨(by first | exact itoa_wf (digestN_wf _) | exact (Flat.any hokx9).status | trivial | assumption | exact Flat.any (by assumption) | exact ⟨by omega, by omega⟩ | (show WfS _; unfold WfS; omega) | (show WfS _; unfold WfS; simp only [List.length_append, List.length_cons, List.length_nil] at *; omega) | (refine Ph.old ?_ hs; assumption)), (by first | exact itoa_wf (digestN_wf _) | exact (Flat.any hokx9).kind | trivial | assumption | exact Flat.any (by assumption) | exact ⟨by omega, by omega⟩ | (show WfS _; unfold WfS; omega) | (show WfS _; unfold WfS; simp only [List.length_append, List.length_cons, List.length_nil] at *; omega) | (refine Ph.old ?_ hs; assumption)), (by first | exact itoa_wf (digestN_wf _) | exact (Flat.any hokx9).body | trivial | assumption | exact Flat.any (by assumption) | exact ⟨by omega, by omega⟩ | (show WfS _; unfold WfS; omega) | (show WfS _; unfold WfS; simp only [List.length_append, List.length_cons, List.length_nil] at *; omega) | (refine Ph.old ?_ hs; assumption)), (by first | exact itoa_wf (digestN_wf _) | exact (Flat.any hokx9).age | trivial | assumption | exact Flat.any (by assumption) | exact ⟨by omega, by omega⟩ | (show WfS _; unfold WfS; omega) | (show WfS _; unfold WfS; simp only [List.length_append, List.length_cons, List.length_nil] at *; omega) | (refine Ph.old ?_ hs; assumption)), (by first | exact itoa_wf (digestN_wf _) | exact (Flat.any hokx9).shares | trivial | assumption | exact Flat.any (by assumption) | exact ⟨by omega, by omega⟩ | (show WfS _; unfold WfS; omega) | (show WfS _; unfold WfS; simp only [List.length_append, List.length_cons, List.length_nil] at *; omega) | (refine Ph.old ?_ hs; assumption)), (by first | exact itoa_wf (digestN_wf _) | exact (Flat.any hokx9).policy | trivial | assumption | exact Flat.any (by assumption) | exact ⟨by omega, by omega⟩ | (show WfS _; unfold WfS; omega) | (show WfS _; unfold WfS; simp only [List.length_append, List.length_cons, List.length_nil] at *; omega) | (refine Ph.old ?_ hs; assumption))⟩⟩, ?_, ?_⟩
   ·
    repeat' apply And.intro
    all_goals (try dsimp only)
    all_goals first | trivial | assumption | omega | ((try simp only [List.length_append, List.length_cons, List.length_nil, lsz_app, lsz_one, lsz_cons, lsz_nil, TAddr.size, TResponse.size, TRequest.size, TPolicy.size, TEntry.size, TCache.size, strsz, TServer.size, TFile.size, List.map_append, List.map_cons, List.map_nil, PServer.lg, PPolicy.lg, PCache.lg] at *); first | omega | assumption)
   ·
    exact hs.fresh (x := x5) (F := F5) Q1
  ·
   replace h2 := of_decide_eq_false h2
   refine WC.skip ?_
   refine At.blocknormal ?_
   refine At.then_ ?_
   refine WC.anynX (K := [box b1 _ _, box b2 _ _, box b3 _ _]) mixed hs Q2 ?_
   clear hs; intro w hs
   refine WA.p (i := 0) Q0 Q6 Q6 Q6 Q0 (hs.only Q2) (fun w hs => Yl.loadAB agg108 Q0 hs Q1 Q0 Q0) ?_
   refine WA.p (i := 1) Q0 Q6 Q6 Q6 Q0 (hs.only Q2) (fun w hs => Yl.loadAB agg110 Q0 hs Q1 Q0 Q0) ?_
   refine WA.p (i := 2) Q0 Q6 Q6 Q6 Q0 (hs.only Q2) (fun w hs => Yl.loadAB agg72 Q0 hs Q1 Q0 Q0) ?_
   refine WA.s (i := 3) Q6 Q0 (Yr.storeB hs Q0 Q0 Q0 Q5 Q3 Q0 (by exact szf108)) (by rintro _ w hs; exact hs.only Q2) ?_
   clear hs; rintro _ w hs
   refine WA.s (i := 4) Q6 Q0 (Yr.storeB hs Q0 Q0 Q0 Q5 Q3 Q0 (by exact szf110)) (by rintro _ w hs; exact hs.only Q2) ?_
   clear hs; rintro _ w hs
   refine WA.s (i := 5) Q6 Q0 (Yr.storeB hs Q0 Q0 Q0 Q5 Q3 Q0 (by exact szf72)) (by rintro _ w hs; exact hs.only Q2) ?_
   clear hs; rintro _ w hs
   refine WA.donen Q6 ?_
   refine WC.ret ?_
   refine finT (rs := [.cell 2 108, .cell 3 110, .cell 4 72]) (vs := [_, _, _]) rfl (by decide) hs (RV.cell agg108 Q0 Q1 Q0 (RV.cell agg110 Q0 Q1 Q0 (RV.cell agg72 Q0 Q1 Q0 RV.nil))) ?_
   refine Ret.mk hs ?_
   refine ⟨x5, (⟨x7.kind, (⟨x7.to.host, x7.to.path⟩ : TAddr), x7.frm, x7.digest⟩ : TRequest), (⟨x9.status, x9.kind, x9.body, x9.age, x9.shares, x9.policy⟩ : TResponse), rfl, ⟨⟨(by first | exact itoa_wf (digestN_wf _) | exact (Flat.any hokx7).kind | trivial | assumption | exact Flat.any (by assumption) | exact ⟨by omega, by omega⟩ | (show WfS _; unfold WfS; omega) | (show WfS _; unfold WfS; simp only [List.length_append, List.length_cons, List.length_nil] at *; omega) | (refine Ph.old ?_ hs; assumption)), ⟨(by first | exact itoa_wf (digestN_wf _) | exact (Flat.any hokx7).to.host | trivial | assumption | exact Flat.any (by assumption) | exact ⟨by omega, by omega⟩ | (show WfS _; unfold WfS; omega) | (show WfS _; unfold WfS; simp only [List.length_append, List.length_cons, List.length_nil] at *; omega) | (refine Ph.old ?_ hs; assumption)), (by first | exact itoa_wf (digestN_wf _) | exact (Flat.any hokx7).to.path | trivial | assumption | exact Flat.any (by assumption) | exact ⟨by omega, by omega⟩ | (show WfS _; unfold WfS; omega) | (show WfS _; unfold WfS; simp only [List.length_append, List.length_cons, List.length_nil] at *; omega) | (refine Ph.old ?_ hs; assumption))⟩, (by first | exact itoa_wf (digestN_wf _) | exact (Flat.any hokx7).frm | trivial | assumption | exact Flat.any (by assumption) | exact ⟨by omega, by omega⟩ | (show WfS _; unfold WfS; omega) | (show WfS _; unfold WfS; simp only [List.length_append, List.length_cons, List.length_nil] at *; omega) | (refine Ph.old ?_ hs; assumption)), (by first | exact itoa_wf (digestN_wf _) | exact (Flat.any hokx7).digest | trivial | assumption | exact Flat.any (by assumption) | exact ⟨by omega, by omega⟩ | (show WfS _; unfold WfS; omega) | (show WfS _; unfold WfS; simp only [List.length_append, List.length_cons, List.length_nil] at *; omega) | (refine Ph.old ?_ hs; assumption))⟩, ⟨(by first | exact itoa_wf (digestN_wf _) | exact (Flat.any hokx9).status | trivial | assumption | exact Flat.any (by assumption) | exact ⟨by omega, by omega⟩ | (show WfS _; unfold WfS; omega) | (show WfS _; unfold WfS; simp only [List.length_append, List.length_cons, List.length_nil] at *; omega) | (refine Ph.old ?_ hs; assumption)), (by first | exact itoa_wf (digestN_wf _) | exact (Flat.any hokx9).kind | trivial | assumption | exact Flat.any (by assumption) | exact ⟨by omega, by omega⟩ | (show WfS _; unfold WfS; omega) | (show WfS _; unfold WfS; simp only [List.length_append, List.length_cons, List.length_nil] at *; omega) | (refine Ph.old ?_ hs; assumption)), (by first | exact itoa_wf (digestN_wf _) | exact (Flat.any hokx9).body | trivial | assumption | exact Flat.any (by assumption) | exact ⟨by omega, by omega⟩ | (show WfS _; unfold WfS; omega) | (show WfS _; unfold WfS; simp only [List.length_append, List.length_cons, List.length_nil] at *; omega) | (refine Ph.old ?_ hs; assumption)), (by first | exact itoa_wf (digestN_wf _) | exact (Flat.any hokx9).age | trivial | assumption | exact Flat.any (by assumption) | exact ⟨by omega, by omega⟩ | (show WfS _; unfold WfS; omega) | (show WfS _; unfold WfS; simp only [List.length_append, List.length_cons, List.length_nil] at *; omega) | (refine Ph.old ?_ hs; assumption)), (by first | exact itoa_wf (digestN_wf _) | exact (Flat.any hokx9).shares | trivial | assumption | exact Flat.any (by assumption) | exact ⟨by omega, by omega⟩ | (show WfS _; unfold WfS; omega) | (show WfS _; unfold WfS; simp only [List.length_append, List.length_cons, List.length_nil] at *; omega) | (refine Ph.old ?_ hs; assumption)), (by first | exact itoa_wf (digestN_wf _) | exact (Flat.any hokx9).policy | trivial | assumption | exact Flat.any (by assumption) | exact ⟨by omega, by omega⟩ | (show WfS _; unfold WfS; omega) | (show WfS _; unfold WfS; simp only [List.length_append, List.length_cons, List.length_nil] at *; omega) | (refine Ph.old ?_ hs; assumption))⟩⟩, ?_, ?_⟩
   ·
    repeat' apply And.intro
    all_goals (try dsimp only)
    all_goals first | trivial | assumption | omega | ((try simp only [List.length_append, List.length_cons, List.length_nil, lsz_app, lsz_one, lsz_cons, lsz_nil, TAddr.size, TResponse.size, TRequest.size, TPolicy.size, TEntry.size, TCache.size, strsz, TServer.size, TFile.size, List.map_append, List.map_cons, List.map_nil, PServer.lg, PPolicy.lg, PCache.lg] at *); first | omega | assumption)
   ·
    exact hs.fresh (x := x5) (F := F5) Q1

theorem c_slices_Index___string_string_ (s : (Sl Str)) (v : Str) (w : World) (h_s : Ph.ok w s)  : Calls Tryz.prog 235 [Sl.v s, S v].toArray w (RetP w (I (idxF (fun x => decide (v = x)) s.l 0))) := by
 have hw := h_s.lt
 refine enterN 19 Tryz.func235 rfl rfl rfl ?_
 have hs := Sat.start w
 refine WC.seq ?_
 refine Qa ?_
 refine WL.next ?_
 refine WC.seq' ?_
 refine WC.seq ?_
 refine Qm ?_
 refine WL.p Q0 (Yl.len_sl slu34 Q0) ?_
 refine Qm ?_
 refine WL.next ?_
 refine WC.block ?_
 refine WC.loopC (ι := Nat) (fun k => s.l.length - k) (fun k => [(8, I (k : Int))]) (fun _ => []) (fun k => idxF (fun x => decide (v = x)) s.l 0 = idxF (fun x => decide (v = x)) (s.l.drop k) k) [(0, _), (1, _), (7, _)] 0 (hs) ⟨by rfl, by rfl, by rfl, trivial⟩ ⟨by rfl, trivial⟩ ?_ ?_
 ·
  simp
 clear hs; rintro k w hJ hs
 simp only [List.nil_append] at hs
 refine WC.seq ?_
 refine WL.p Q0 (Yl.lss Q0 Q0) ?_
 refine WL.next ?_
 refine WC.seq' ?_
 refine WC.condS Q0 (fun h1 => ?_) (fun h1 => ?_)
 ·
  replace h1 := of_decide_eq_true h1
  obtain ⟨d, hd⟩ := exists_get (l := s.l) (k := k) Q7
  rw [drop_cons hd] at hJ
  refine WC.skipn ?_
  refine WC.seq' ?_
  refine WC.block ?_
  refine WC.seq ?_
  refine Qm ?_
  refine Qa ?_
  refine WL.next ?_
  refine WC.seq ?_
  refine Qm ?_
  refine Qm ?_
  refine Qm ?_
  refine WL.p Q0 (Yl.indexAddr slt34 Q0 Q0 (Ph.old h_s hs) Q0 (hd)) ?_
  refine WL.p Q0 (Yl.loadC0 sca9 Q0 (Sl.Ok.at_ (Ph.old h_s hs) (by assumption)).2 Q0) ?_
  refine WL.p Q0 (Yl.eqs Q0 Q0) ?_
  refine WL.next ?_
  refine WC.condS Q0 (fun h2 => ?_) (fun h2 => ?_)
  ·
   replace h2 := of_decide_eq_true h2
   refine WC.seq ?_
   refine Qm ?_
   refine Qa ?_
   refine WL.next ?_
   refine WC.ret ?_
   refine At.blockret ?_
   refine At.thenret ?_
   refine At.thenret ?_
   refine At.blockret ?_
   refine At.thenret ?_
   refine fin1' rfl Q0 ?_
   refine RetP.mk hs ?_
   rw [hJ]; simp_all [idxF]
  ·
   replace h2 := of_decide_eq_false h2
   refine WC.skip ?_
   refine At.blocknormal ?_
   refine At.then_ ?_
   refine WC.region ?_
   refine WL.p Q0 (Yl.add Q0 Q0 Q7) ?_
   refine Qm ?_
   refine WL.nil ?_
   refine At.roundC (k + 1) (hs.only Q2) ⟨by rfl, by rfl, by rfl, trivial⟩ ⟨by rfl, trivial⟩ ?_ ?_
   ·
    omega
   ·
    rw [hJ]; simp_all [idxF]
 ·
  replace h1 := of_decide_eq_false h1
  rw [drop_out (l := s.l) Q7] at hJ
  refine WC.exit ?_
  refine At.thenexit ?_
  refine At.thenexit ?_
  refine At.blockexit ?_
  refine At.then_ ?_
  refine WC.seq ?_
  refine Qa ?_
  refine WL.next ?_
  refine WC.ret ?_
  refine fin1' rfl Q0 ?_
  refine RetP.mk hs ?_
  rw [hJ]; simp_all [idxF]

theorem c_slices_Contains___string_string_ (s : (Sl Str)) (v : Str) (w : World) (h_s : Ph.ok w s)  : Calls Tryz.prog 166 [Sl.v s, S v].toArray w (RetP w (Bo (decide (v ∈ s.l)))) := by
 refine enterN 9 Tryz.func166 rfl rfl rfl ?_
 have hs := Sat.start w
 refine WC.seq ?_
 refine Qa ?_
 refine WL.next ?_
 refine WC.seq ?_
 refine Qm ?_
 refine Qm ?_
 refine WL.callp hs Q0 (Yc.func Q0 fn235) (c_slices_Index___string_string_ _ _ _ (Ph.old h_s hs)) ?_
 clear hs; intro w hs
 refine WL.p Q0 (Yl.geq Q0 Q0) ?_
 refine Qa ?_
 refine WL.next ?_
 refine WC.ret ?_
 refine fin1' rfl Q0 ?_
 refine RetP.mk hs ?_
 simp only [ge_iff_le, idxF_any, any_mem]

theorem c_impl_Allows (p : PPolicy) (kind : Int) (host : Str) (w : World) (h_p : Ph.ok w p)  : Calls Tryz.prog 66 [.agg #[Bo p.set, Sl.v p.scripts, Sl.v p.styles, Sl.v p.images, S p.nonce], I kind, S host].toArray w (RetP w (Bo (p.lg.allows kind host))) := by
 refine enterN 30 Tryz.func66 rfl rfl rfl ?_
 have hs := Sat.start w
 refine WC.seq ?_
 refine WL.r Q0 (Yr.box hs Q0 Q0) ?_
 clear hs; rintro _ w ⟨b1, rfl, hb, hs⟩; clear hb
 refine Qa ?_
 refine WL.next ?_
 refine WC.seq' ?_
 refine WC.seq ?_
 refine WL.p Q0 (Yl.fieldAddr fa108_0 Q0) ?_
 refine WL.p Q0 (Yl.loadB sca4 Q0 hs Q1 Q0) ?_
 refine WL.p Q0 (Yl.not Q0) ?_
 refine WL.next ?_
 refine WC.condS Q0 (fun h1 => ?_) (fun h1 => ?_)
 ·
  replace h1 := not_eq_true h1
  refine WC.seq ?_
  refine Qa ?_
  refine WL.next ?_
  refine WC.ret ?_
  refine At.thenret ?_
  refine fin1' rfl Q0 ?_
  refine RetP.mk hs ?_
  simp_all [TPolicy.allows]
 ·
  replace h1 := not_eq_false h1
  refine WC.skipn ?_
  refine WC.seq' ?_
  refine WC.seq ?_
  refine Qm ?_
  refine WL.next ?_
  refine WC.block ?_
  refine WC.seq' ?_
  refine WC.seq ?_
  refine WL.p Q0 (Yl.eqi Q0 Q0) ?_
  refine Qa ?_
  refine WL.next ?_
  refine WC.condS Q0 (fun h2 => ?_) (fun h2 => ?_)
  ·
   replace h2 := of_decide_eq_true h2
   refine WC.skipn ?_
   refine WC.condT Q0 ?_
   refine WC.seq ?_
   refine WL.p Q0 (Yl.fieldAddr fa108_1 Q0) ?_
   refine WL.p Q0 (Yl.loadB sca34 Q0 hs Q1 Q0) ?_
   refine Qm ?_
   refine WL.callp hs Q0 (Yc.func Q0 fn166) (c_slices_Contains___string_string_ _ _ _ (Ph.old h_p.scripts hs)) ?_
   clear hs; intro w hs
   refine Qa ?_
   refine WL.next ?_
   refine WC.ret ?_
   refine At.blockret ?_
   refine At.thenret ?_
   refine fin1' rfl Q0 ?_
   refine RetP.mk hs ?_
   simp_all [TPolicy.allows]
  ·
   replace h2 := of_decide_eq_false h2
   refine WC.region ?_
   refine WL.p Q0 (Yl.eqi Q0 Q0) ?_
   refine Qa ?_
   refine WL.nil ?_
   refine At.then_ ?_
   refine WC.condS Q0 (fun h3 => ?_) (fun h3 => ?_)
   ·
    replace h3 := of_decide_eq_true h3
    refine WC.seq ?_
    refine WL.p Q0 (Yl.fieldAddr fa108_1 Q0) ?_
    refine WL.p Q0 (Yl.loadB sca34 Q0 hs Q1 Q0) ?_
    refine Qm ?_
    refine WL.callp hs Q0 (Yc.func Q0 fn166) (c_slices_Contains___string_string_ _ _ _ (Ph.old h_p.scripts hs)) ?_
    clear hs; intro w hs
    refine Qa ?_
    refine WL.next ?_
    refine WC.ret ?_
    refine At.blockret ?_
    refine At.thenret ?_
    refine fin1' rfl Q0 ?_
    refine RetP.mk hs ?_
    simp_all [TPolicy.allows]
   ·
    replace h3 := of_decide_eq_false h3
    refine WC.seq ?_
    refine WL.p Q0 (Yl.eqi Q0 Q0) ?_
    refine Qa ?_
    refine WL.next ?_
    refine WC.condS Q0 (fun h4 => ?_) (fun h4 => ?_)
    ·
     replace h4 := of_decide_eq_true h4
     refine WC.seq ?_
     refine WL.p Q0 (Yl.fieldAddr fa108_2 Q0) ?_
     refine WL.p Q0 (Yl.loadB sca34 Q0 hs Q1 Q0) ?_
     refine Qm ?_
     refine WL.callp hs Q0 (Yc.func Q0 fn166) (c_slices_Contains___string_string_ _ _ _ (Ph.old h_p.styles hs)) ?_
     clear hs; intro w hs
     refine Qa ?_
     refine WL.next ?_
     refine WC.ret ?_
     refine At.blockret ?_
     refine At.thenret ?_
     refine fin1' rfl Q0 ?_
     refine RetP.mk hs ?_
     simp_all [TPolicy.allows]
    ·
     replace h4 := of_decide_eq_false h4
     refine WC.seq ?_
     refine WL.p Q0 (Yl.eqi Q0 Q0) ?_
     refine Qa ?_
     refine WL.next ?_
     refine WC.condS Q0 (fun h5 => ?_) (fun h5 => ?_)
     ·
      replace h5 := of_decide_eq_true h5
      refine WC.seq ?_
      refine WL.p Q0 (Yl.fieldAddr fa108_3 Q0) ?_
      refine WL.p Q0 (Yl.loadB sca34 Q0 hs Q1 Q0) ?_
      refine Qm ?_
      refine WL.callp hs Q0 (Yc.func Q0 fn166) (c_slices_Contains___string_string_ _ _ _ (Ph.old h_p.images hs)) ?_
      clear hs; intro w hs
      refine Qa ?_
      refine WL.next ?_
      refine WC.ret ?_
      refine At.blockret ?_
      refine At.thenret ?_
      refine fin1' rfl Q0 ?_
      refine RetP.mk hs ?_
      simp_all [TPolicy.allows]
     ·
      replace h5 := of_decide_eq_false h5
      refine WC.skip ?_
      refine At.blocknormal ?_
      refine At.then_ ?_
      refine WC.seq ?_
      refine Qa ?_
      refine WL.next ?_
      refine WC.ret ?_
      refine fin1' rfl Q0 ?_
      refine RetP.mk hs ?_
      simp_all [TPolicy.allows]

theorem c_impl_InRange (n : Int) (low : Int) (high : Int) (w : World)   : Calls Tryz.prog 90 [I n, I low, I high].toArray w (RetP w (Bo (inR n low high))) := by
 refine enterN 15 Tryz.func90 rfl rfl rfl ?_
 have hs := Sat.start w
 refine WC.seq ?_
 refine Qa ?_
 refine WL.next ?_
 refine WC.seq ?_
 refine Qm ?_
 refine Qm ?_
 refine WL.p Q0 (Yl.leq Q0 Q0) ?_
 refine Qm ?_
 refine WL.split (d := 10) Q0 (fun h1 => ?_) (fun h1 => ?_)
 ·
  replace h1 := of_decide_eq_true h1
  refine WL.run (d := 10) Q0 Q0 ?_
  refine Qm ?_
  refine WL.run (d := 10) Q0 Q0 ?_
  refine Qm ?_
  refine WL.run (d := 10) Q0 Q0 ?_
  refine WL.p Q0 (Yl.leq Q0 Q0) ?_
  refine WL.p Q0 (Yl.pickT Q0 Q0) ?_
  refine Qa ?_
  refine WL.next ?_
  refine WC.ret ?_
  refine fin1' rfl Q0 ?_
  refine RetP.mk hs ?_
  simp [inR, h1]
 ·
  replace h1 := of_decide_eq_false h1
  refine WL.skip (d := 10) Q0 Q0 Q0 Q0 ?_
  refine WL.skip (d := 10) Q0 Q0 Q0 Q0 ?_
  refine WL.skip (d := 10) Q0 Q0 Q0 Q0 ?_
  refine WL.p Q0 (Yl.pickF Q0 Q0) ?_
  refine Qa ?_
  refine WL.next ?_
  refine WC.ret ?_
  refine fin1' rfl Q0 ?_
  refine RetP.mk hs ?_
  rw [inR_false.2 Q7]

theorem c_impl_IsName (s : Str) (w : World) (h_s : Ph.ok w s)  : Calls Tryz.prog 106 [S s].toArray w (RetP w (Bo (isName s))) := by
 have hw : s.length ≤ 9223372036854775807 := h_s
 refine enterN 23 Tryz.func106 rfl rfl rfl ?_
 have hs := Sat.start w
 refine WC.seq ?_
 refine Qa ?_
 refine WL.next ?_
 refine WC.seq' ?_
 refine WC.seq ?_
 refine Qa ?_
 refine WL.next ?_
 refine WC.block ?_
 refine WC.loopC (ι := Nat) (fun k => s.length - k) (fun k => [(3, I (k : Int))]) (fun _ => []) (fun k => s.all lower = (s.drop k).all lower) [(0, _)] 0 (hs) ⟨by rfl, trivial⟩ ⟨by rfl, trivial⟩ ?_ ?_
 ·
  simp
 clear hs; rintro k w hJ hs
 simp only [List.nil_append] at hs
 refine WC.seq' ?_
 refine WC.seq ?_
 refine Qm ?_
 refine Qm ?_
 refine WL.p Q0 (Yl.len_str str9 Q0) ?_
 refine WL.p Q0 (Yl.lss Q0 Q0) ?_
 refine WL.next ?_
 refine WC.condS Q0 (fun h1 => ?_) (fun h1 => ?_)
 ·
  replace h1 := of_decide_eq_true h1
  obtain ⟨d, hd⟩ := exists_get (l := s) (k := k) Q7
  rw [drop_cons hd] at hJ
  refine WC.skipn ?_
  refine WC.seq' ?_
  refine WC.block ?_
  refine WC.seq ?_
  refine Qm ?_
  refine Qm ?_
  refine WL.p Q0 (Yl.index str9 Q0 Q0 Q0 (by first | assumption | exact List.getElem?_eq_getElem Q7)) ?_
  refine WL.p Q0 (Yl.lss Q0 Q0) ?_
  refine Qm ?_
  refine WL.split (d := 14) Q0 (fun h2 => ?_) (fun h2 => ?_)
  ·
   replace h2 := of_decide_eq_true h2
   refine WL.skip (d := 14) Q0 Q0 Q0 Q0 ?_
   refine WL.skip (d := 14) Q0 Q0 Q0 Q0 ?_
   refine WL.skip (d := 14) Q0 Q0 Q0 Q0 ?_
   refine WL.skip (d := 14) Q0 Q0 Q0 Q0 ?_
   refine WL.p Q0 (Yl.pickT Q0 Q0) ?_
   refine WL.next ?_
   refine WC.condT Q0 ?_
   refine WC.seq ?_
   refine Qa ?_
   refine WL.next ?_
   refine WC.ret ?_
   refine At.blockret ?_
   refine At.thenret ?_
   refine At.thenret ?_
   refine At.blockret ?_
   refine At.thenret ?_
   refine fin1' rfl Q0 ?_
   refine RetP.mk hs ?_
   first
    | (simp [isName, hJ, lower]; done)
    | (simp [isName, hJ, lower]; omega)
    | simp_all [isName, hJ, lower]
  ·
   replace h2 := of_decide_eq_false h2
   refine WL.run (d := 14) Q0 Q0 ?_
   refine Qm ?_
   refine WL.run (d := 14) Q0 Q0 ?_
   refine Qm ?_
   refine WL.run (d := 14) Q0 Q0 ?_
   refine WL.p Q0 (Yl.index str9 Q0 Q0 Q0 (by first | assumption | exact List.getElem?_eq_getElem Q7)) ?_
   refine WL.run (d := 14) Q0 Q0 ?_
   refine WL.p Q0 (Yl.gtr Q0 Q0) ?_
   refine WL.p Q0 (Yl.pickF Q0 Q0) ?_
   refine WL.next ?_
   refine WC.condS Q0 (fun h3 => ?_) (fun h3 => ?_)
   ·
    replace h3 := of_decide_eq_true h3
    refine WC.seq ?_
    refine Qa ?_
    refine WL.next ?_
    refine WC.ret ?_
    refine At.blockret ?_
    refine At.thenret ?_
    refine At.thenret ?_
    refine At.blockret ?_
    refine At.thenret ?_
    refine fin1' rfl Q0 ?_
    refine RetP.mk hs ?_
    first
     | (simp [isName, hJ, lower]; done)
     | (simp [isName, hJ, lower]; omega)
     | simp_all [isName, hJ, lower]
   ·
    replace h3 := of_decide_eq_false h3
    refine WC.skip ?_
    refine At.blocknormal ?_
    refine At.then_ ?_
    refine WC.region ?_
    refine Qm ?_
    refine WL.p Q0 (Yl.add Q0 Q0 Q7) ?_
    refine Qa ?_
    refine WL.nil ?_
    refine At.roundC (k + 1) (hs.only Q2) ⟨by rfl, trivial⟩ ⟨by rfl, trivial⟩ ?_ ?_
    ·
     omega
    ·
     rw [hJ]; simp [lower]; omega
 ·
  replace h1 := of_decide_eq_false h1
  rw [drop_out (l := s) Q7] at hJ
  refine WC.exit ?_
  refine At.thenexit ?_
  refine At.thenexit ?_
  refine At.blockexit ?_
  refine At.then_ ?_
  refine WC.seq ?_
  refine Qm ?_
  refine WL.p Q0 (Yl.len_str str9 Q0) ?_
  refine WL.callp hs Q0 (Yc.func Q0 fn90) (c_impl_InRange _ _ _ _) ?_
  clear hs; intro w hs
  refine Qa ?_
  refine WL.next ?_
  refine WC.ret ?_
  refine fin1' rfl Q0 ?_
  refine RetP.mk hs ?_
  first
   | (simp [isName, hJ, lower]; done)
   | (simp [isName, hJ, lower]; omega)
   | simp_all [isName, hJ, lower]

theorem c_impl_IsAddr (a : TAddr) (w : World) (h_a : Ph.ok w a)  : Calls Tryz.prog 121 [.agg #[S a.host, S a.path]].toArray w (RetP w (Bo (a.is))) := by
 refine enterN 11 Tryz.func121 rfl rfl rfl ?_
 have hs := Sat.start w
 refine WC.seq ?_
 refine WL.r Q0 (Yr.box hs Q0 Q0) ?_
 clear hs; rintro _ w ⟨b1, rfl, hb, hs⟩; clear hb
 refine Qa ?_
 refine WL.next ?_
 refine WC.seq ?_
 refine WL.p Q0 (Yl.fieldAddr fa39_0 Q0) ?_
 refine WL.p Q0 (Yl.loadB sca9 Q0 hs Q1 Q0) ?_
 refine WL.callp hs Q0 (Yc.func Q0 fn106) (c_impl_IsName _ _ (Ph.old h_a.host hs)) ?_
 clear hs; intro w hs
 refine Qm ?_
 refine WL.split (d := 6) Q0 (fun h1 => ?_) (fun h1 => ?_)
 ·
  refine WL.run (d := 6) Q0 Q0 ?_
  refine WL.p Q0 (Yl.fieldAddr fa39_1 Q0) ?_
  refine WL.run (d := 6) Q0 Q0 ?_
  refine WL.p Q0 (Yl.loadB sca9 Q0 hs Q1 Q0) ?_
  refine WL.run (d := 6) Q0 Q0 ?_
  refine WL.callp hs Q0 (Yc.func Q0 fn106) (c_impl_IsName _ _ (Ph.old h_a.path hs)) ?_
  clear hs; intro w hs
  refine WL.p Q0 (Yl.pickT Q0 Q0) ?_
  refine Qa ?_
  refine WL.next ?_
  refine WC.ret ?_
  refine fin1' rfl Q0 ?_
  refine RetP.mk hs ?_
  simp_all [TAddr.is]
 ·
  refine WL.skip (d := 6) Q0 Q0 Q0 Q0 ?_
  refine WL.skip (d := 6) Q0 Q0 Q0 Q0 ?_
  refine WL.skip (d := 6) Q0 Q0 Q0 Q0 ?_
  refine WL.p Q0 (Yl.pickF Q0 Q0) ?_
  refine Qa ?_
  refine WL.next ?_
  refine WC.ret ?_
  refine fin1' rfl Q0 ?_
  refine RetP.mk hs ?_
  simp_all [TAddr.is]

theorem c_impl_IsValue (s : Str) (w : World) (h_s : Ph.ok w s)  : Calls Tryz.prog 234 [S s].toArray w (RetP w (Bo (isValue s))) := by
 have hw : s.length ≤ 9223372036854775807 := h_s
 refine enterN 42 Tryz.func234 rfl rfl rfl ?_
 have hs := Sat.start w
 refine WC.seq ?_
 refine Qa ?_
 refine WL.next ?_
 refine WC.seq' ?_
 refine WC.seq ?_
 refine Qa ?_
 refine WL.next ?_
 refine WC.block ?_
 refine WC.loopC (ι := Nat) (fun k => s.length - k) (fun k => [(3, I (k : Int))]) (fun _ => []) (fun k => s.all valueByte = (s.drop k).all valueByte) [(0, _)] 0 (hs) ⟨by rfl, trivial⟩ ⟨by rfl, trivial⟩ ?_ ?_
 ·
  simp
 clear hs; rintro k w hJ hs
 simp only [List.nil_append] at hs
 refine WC.seq' ?_
 refine WC.seq ?_
 refine Qm ?_
 refine Qm ?_
 refine WL.p Q0 (Yl.len_str str9 Q0) ?_
 refine WL.p Q0 (Yl.lss Q0 Q0) ?_
 refine WL.next ?_
 refine WC.condS Q0 (fun h1 => ?_) (fun h1 => ?_)
 ·
  replace h1 := of_decide_eq_true h1
  obtain ⟨d, hd⟩ := exists_get (l := s) (k := k) Q7
  rw [drop_cons hd] at hJ
  refine WC.skipn ?_
  refine WC.seq' ?_
  refine WC.block ?_
  refine WC.seq ?_
  refine Qm ?_
  refine Qm ?_
  refine WL.p Q0 (Yl.index str9 Q0 Q0 Q0 (by first | assumption | exact List.getElem?_eq_getElem Q7)) ?_
  refine WL.p Q0 (Yl.geq Q0 Q0) ?_
  refine Qm ?_
  refine WL.split (d := 14) Q0 (fun h2 => ?_) (fun h2 => ?_)
  ·
   replace h2 := of_decide_eq_true h2
   refine WL.run (d := 14) Q0 Q0 ?_
   refine Qm ?_
   refine WL.run (d := 14) Q0 Q0 ?_
   refine Qm ?_
   refine WL.run (d := 14) Q0 Q0 ?_
   refine WL.p Q0 (Yl.index str9 Q0 Q0 Q0 (by first | assumption | exact List.getElem?_eq_getElem Q7)) ?_
   refine WL.run (d := 14) Q0 Q0 ?_
   refine WL.p Q0 (Yl.leq Q0 Q0) ?_
   refine WL.p Q0 (Yl.pickT Q0 Q0) ?_
   refine Qm ?_
   refine WL.split (d := 20) Q0 (fun h3 => ?_) (fun h3 => ?_)
   ·
    replace h3 := of_decide_eq_true h3
    refine WL.skip (d := 20) Q0 Q0 Q0 Q0 ?_
    refine WL.skip (d := 20) Q0 Q0 Q0 Q0 ?_
    refine WL.skip (d := 20) Q0 Q0 Q0 Q0 ?_
    refine WL.skip (d := 20) Q0 Q0 Q0 Q0 ?_
    refine WL.skip (d := 20) Q0 Q0 Q0 Q0 ?_
    refine WL.skipU (d := 25) Q0 Q0 Q0 ?_
    refine WL.skipU (d := 25) Q0 Q0 Q0 ?_
    refine WL.skipU (d := 25) Q0 Q0 Q0 ?_
    refine WL.skipU (d := 25) Q0 Q0 Q0 ?_
    refine WL.skip (d := 20) Q0 Q0 Q0 Q0 ?_
    refine WL.p Q0 (Yl.pickT Q0 Q0) ?_
    refine Qm ?_
    refine WL.skip (d := 32) Q0 Q0 Q0 Q0 ?_
    refine WL.skip (d := 32) Q0 Q0 Q0 Q0 ?_
    refine WL.skip (d := 32) Q0 Q0 Q0 Q0 ?_
    refine WL.skip (d := 32) Q0 Q0 Q0 Q0 ?_
    refine WL.p Q0 (Yl.pickT Q0 Q0) ?_
    refine WL.p Q0 (Yl.not Q0) ?_
    refine WL.next ?_
    refine WC.condF Q0 ?_
    refine WC.skip ?_
    refine At.blocknormal ?_
    refine At.then_ ?_
    refine WC.region ?_
    refine Qm ?_
    refine WL.p Q0 (Yl.add Q0 Q0 Q7) ?_
    refine Qa ?_
    refine WL.nil ?_
    refine At.roundC (k + 1) (hs.only Q2) ⟨by rfl, trivial⟩ ⟨by rfl, trivial⟩ ?_ ?_
    ·
     omega
    ·
     rw [hJ]; simp [valueByte, lower, digit]; omega
   ·
    replace h3 := of_decide_eq_false h3
    refine WL.run (d := 20) Q0 Q0 ?_
    refine Qm ?_
    refine WL.run (d := 20) Q0 Q0 ?_
    refine Qm ?_
    refine WL.run (d := 20) Q0 Q0 ?_
    refine WL.p Q0 (Yl.index str9 Q0 Q0 Q0 (by first | assumption | exact List.getElem?_eq_getElem Q7)) ?_
    refine WL.run (d := 20) Q0 Q0 ?_
    refine WL.p Q0 (Yl.geq Q0 Q0) ?_
    refine WL.run (d := 20) Q0 Q0 ?_
    refine Qm ?_
    refine WL.split (d := 25) Q0 (fun h4 => ?_) (fun h4 => ?_)
    ·
     replace h4 := of_decide_eq_true h4
     refine WL.run (d := 25) Q0 Q0 ?_
     refine Qm ?_
     refine WL.run (d := 25) Q0 Q0 ?_
     refine Qm ?_
     refine WL.run (d := 25) Q0 Q0 ?_
     refine WL.p Q0 (Yl.index str9 Q0 Q0 Q0 (by first | assumption | exact List.getElem?_eq_getElem Q7)) ?_
     refine WL.run (d := 25) Q0 Q0 ?_
     refine WL.p Q0 (Yl.leq Q0 Q0) ?_
     refine WL.run (d := 20) Q0 Q0 ?_
     refine WL.p Q0 (Yl.pickT Q0 Q0) ?_
     refine WL.p Q0 (Yl.pickF Q0 Q0) ?_
     refine Qm ?_
     refine WL.split (d := 32) Q0 (fun h5 => ?_) (fun h5 => ?_)
     ·
      replace h5 := of_decide_eq_true h5
      refine WL.skip (d := 32) Q0 Q0 Q0 Q0 ?_
      refine WL.skip (d := 32) Q0 Q0 Q0 Q0 ?_
      refine WL.skip (d := 32) Q0 Q0 Q0 Q0 ?_
      refine WL.skip (d := 32) Q0 Q0 Q0 Q0 ?_
      refine WL.p Q0 (Yl.pickT Q0 Q0) ?_
      refine WL.p Q0 (Yl.not Q0) ?_
      refine WL.next ?_
      refine WC.condF Q0 ?_
      refine WC.skip ?_
      refine At.blocknormal ?_
      refine At.then_ ?_
      refine WC.region ?_
      refine Qm ?_
      refine WL.p Q0 (Yl.add Q0 Q0 Q7) ?_
      refine Qa ?_
      refine WL.nil ?_
      refine At.roundC (k + 1) (hs.only Q2) ⟨by rfl, trivial⟩ ⟨by rfl, trivial⟩ ?_ ?_
      ·
       omega
      ·
       rw [hJ]; simp [valueByte, lower, digit]; omega
     ·
      replace h5 := of_decide_eq_false h5
      refine WL.run (d := 32) Q0 Q0 ?_
      refine Qm ?_
      refine WL.run (d := 32) Q0 Q0 ?_
      refine Qm ?_
      refine WL.run (d := 32) Q0 Q0 ?_
      refine WL.p Q0 (Yl.index str9 Q0 Q0 Q0 (by first | assumption | exact List.getElem?_eq_getElem Q7)) ?_
      refine WL.run (d := 32) Q0 Q0 ?_
      refine WL.p Q0 (Yl.eqi Q0 Q0) ?_
      refine WL.p Q0 (Yl.pickF Q0 Q0) ?_
      refine WL.p Q0 (Yl.not Q0) ?_
      refine WL.next ?_
      refine WC.condS Q0 (fun h6 => ?_) (fun h6 => ?_)
      ·
       replace h6 := not_eq_true h6
       replace h6 := of_decide_eq_false h6
       refine WC.seq ?_
       refine Qa ?_
       refine WL.next ?_
       refine WC.ret ?_
       refine At.blockret ?_
       refine At.thenret ?_
       refine At.thenret ?_
       refine At.blockret ?_
       refine At.thenret ?_
       refine fin1' rfl Q0 ?_
       refine RetP.mk hs ?_
       first
        | (simp [isValue, hJ, valueByte, lower, digit]; done)
        | (simp [isValue, hJ, valueByte, lower, digit]; omega)
        | simp_all [isValue, hJ, valueByte, lower, digit]
      ·
       replace h6 := not_eq_false h6
       replace h6 := of_decide_eq_true h6
       refine WC.skip ?_
       refine At.blocknormal ?_
       refine At.then_ ?_
       refine WC.region ?_
       refine Qm ?_
       refine WL.p Q0 (Yl.add Q0 Q0 Q7) ?_
       refine Qa ?_
       refine WL.nil ?_
       refine At.roundC (k + 1) (hs.only Q2) ⟨by rfl, trivial⟩ ⟨by rfl, trivial⟩ ?_ ?_
       ·
        omega
       ·
        rw [hJ]; simp [valueByte, lower, digit]; omega
    ·
     replace h4 := of_decide_eq_false h4
     refine WL.skip (d := 25) Q0 Q0 Q0 Q0 ?_
     refine WL.skip (d := 25) Q0 Q0 Q0 Q0 ?_
     refine WL.skip (d := 25) Q0 Q0 Q0 Q0 ?_
     refine WL.skip (d := 25) Q0 Q0 Q0 Q0 ?_
     refine WL.run (d := 20) Q0 Q0 ?_
     refine WL.p Q0 (Yl.pickF Q0 Q0) ?_
     refine WL.p Q0 (Yl.pickF Q0 Q0) ?_
     refine Qm ?_
     refine WL.run (d := 32) Q0 Q0 ?_
     refine Qm ?_
     refine WL.run (d := 32) Q0 Q0 ?_
     refine Qm ?_
     refine WL.run (d := 32) Q0 Q0 ?_
     refine WL.p Q0 (Yl.index str9 Q0 Q0 Q0 (by first | assumption | exact List.getElem?_eq_getElem Q7)) ?_
     refine WL.run (d := 32) Q0 Q0 ?_
     refine WL.p Q0 (Yl.eqi Q0 Q0) ?_
     refine WL.p Q0 (Yl.pickF Q0 Q0) ?_
     refine WL.p Q0 (Yl.not Q0) ?_
     refine WL.next ?_
     refine WC.condS Q0 (fun h5 => ?_) (fun h5 => ?_)
     ·
      replace h5 := not_eq_true h5
      replace h5 := of_decide_eq_false h5
      refine WC.seq ?_
      refine Qa ?_
      refine WL.next ?_
      refine WC.ret ?_
      refine At.blockret ?_
      refine At.thenret ?_
      refine At.thenret ?_
      refine At.blockret ?_
      refine At.thenret ?_
      refine fin1' rfl Q0 ?_
      refine RetP.mk hs ?_
      first
       | (simp [isValue, hJ, valueByte, lower, digit]; done)
       | (simp [isValue, hJ, valueByte, lower, digit]; omega)
       | simp_all [isValue, hJ, valueByte, lower, digit]
     ·
      replace h5 := not_eq_false h5
      replace h5 := of_decide_eq_true h5
      refine WC.skip ?_
      refine At.blocknormal ?_
      refine At.then_ ?_
      refine WC.region ?_
      refine Qm ?_
      refine WL.p Q0 (Yl.add Q0 Q0 Q7) ?_
      refine Qa ?_
      refine WL.nil ?_
      refine At.roundC (k + 1) (hs.only Q2) ⟨by rfl, trivial⟩ ⟨by rfl, trivial⟩ ?_ ?_
      ·
       omega
      ·
       rw [hJ]; simp [valueByte, lower, digit]; omega
  ·
   replace h2 := of_decide_eq_false h2
   refine WL.skip (d := 14) Q0 Q0 Q0 Q0 ?_
   refine WL.skip (d := 14) Q0 Q0 Q0 Q0 ?_
   refine WL.skip (d := 14) Q0 Q0 Q0 Q0 ?_
   refine WL.skip (d := 14) Q0 Q0 Q0 Q0 ?_
   refine WL.p Q0 (Yl.pickF Q0 Q0) ?_
   refine Qm ?_
   refine WL.run (d := 20) Q0 Q0 ?_
   refine Qm ?_
   refine WL.run (d := 20) Q0 Q0 ?_
   refine Qm ?_
   refine WL.run (d := 20) Q0 Q0 ?_
   refine WL.p Q0 (Yl.index str9 Q0 Q0 Q0 (by first | assumption | exact List.getElem?_eq_getElem Q7)) ?_
   refine WL.run (d := 20) Q0 Q0 ?_
   refine WL.p Q0 (Yl.geq Q0 Q0) ?_
   refine WL.run (d := 20) Q0 Q0 ?_
   refine Qm ?_
   refine WL.split (d := 25) Q0 (fun h3 => ?_) (fun h3 => ?_)
   ·
    replace h3 := of_decide_eq_true h3
    refine WL.run (d := 25) Q0 Q0 ?_
    refine Qm ?_
    refine WL.run (d := 25) Q0 Q0 ?_
    refine Qm ?_
    refine WL.run (d := 25) Q0 Q0 ?_
    refine WL.p Q0 (Yl.index str9 Q0 Q0 Q0 (by first | assumption | exact List.getElem?_eq_getElem Q7)) ?_
    refine WL.run (d := 25) Q0 Q0 ?_
    refine WL.p Q0 (Yl.leq Q0 Q0) ?_
    refine WL.run (d := 20) Q0 Q0 ?_
    refine WL.p Q0 (Yl.pickT Q0 Q0) ?_
    refine WL.p Q0 (Yl.pickF Q0 Q0) ?_
    refine Qm ?_
    refine WL.split (d := 32) Q0 (fun h4 => ?_) (fun h4 => ?_)
    ·
     replace h4 := of_decide_eq_true h4
     refine WL.skip (d := 32) Q0 Q0 Q0 Q0 ?_
     refine WL.skip (d := 32) Q0 Q0 Q0 Q0 ?_
     refine WL.skip (d := 32) Q0 Q0 Q0 Q0 ?_
     refine WL.skip (d := 32) Q0 Q0 Q0 Q0 ?_
     refine WL.p Q0 (Yl.pickT Q0 Q0) ?_
     refine WL.p Q0 (Yl.not Q0) ?_
     refine WL.next ?_
     refine WC.condF Q0 ?_
     refine WC.skip ?_
     refine At.blocknormal ?_
     refine At.then_ ?_
     refine WC.region ?_
     refine Qm ?_
     refine WL.p Q0 (Yl.add Q0 Q0 Q7) ?_
     refine Qa ?_
     refine WL.nil ?_
     refine At.roundC (k + 1) (hs.only Q2) ⟨by rfl, trivial⟩ ⟨by rfl, trivial⟩ ?_ ?_
     ·
      omega
     ·
      rw [hJ]; simp [valueByte, lower, digit]; omega
    ·
     replace h4 := of_decide_eq_false h4
     refine WL.run (d := 32) Q0 Q0 ?_
     refine Qm ?_
     refine WL.run (d := 32) Q0 Q0 ?_
     refine Qm ?_
     refine WL.run (d := 32) Q0 Q0 ?_
     refine WL.p Q0 (Yl.index str9 Q0 Q0 Q0 (by first | assumption | exact List.getElem?_eq_getElem Q7)) ?_
     refine WL.run (d := 32) Q0 Q0 ?_
     refine WL.p Q0 (Yl.eqi Q0 Q0) ?_
     refine WL.p Q0 (Yl.pickF Q0 Q0) ?_
     refine WL.p Q0 (Yl.not Q0) ?_
     refine WL.next ?_
     refine WC.condS Q0 (fun h5 => ?_) (fun h5 => ?_)
     ·
      replace h5 := not_eq_true h5
      replace h5 := of_decide_eq_false h5
      refine WC.seq ?_
      refine Qa ?_
      refine WL.next ?_
      refine WC.ret ?_
      refine At.blockret ?_
      refine At.thenret ?_
      refine At.thenret ?_
      refine At.blockret ?_
      refine At.thenret ?_
      refine fin1' rfl Q0 ?_
      refine RetP.mk hs ?_
      first
       | (simp [isValue, hJ, valueByte, lower, digit]; done)
       | (simp [isValue, hJ, valueByte, lower, digit]; omega)
       | simp_all [isValue, hJ, valueByte, lower, digit]
     ·
      replace h5 := not_eq_false h5
      replace h5 := of_decide_eq_true h5
      refine WC.skip ?_
      refine At.blocknormal ?_
      refine At.then_ ?_
      refine WC.region ?_
      refine Qm ?_
      refine WL.p Q0 (Yl.add Q0 Q0 Q7) ?_
      refine Qa ?_
      refine WL.nil ?_
      refine At.roundC (k + 1) (hs.only Q2) ⟨by rfl, trivial⟩ ⟨by rfl, trivial⟩ ?_ ?_
      ·
       omega
      ·
       rw [hJ]; simp [valueByte, lower, digit]; omega
   ·
    replace h3 := of_decide_eq_false h3
    refine WL.skip (d := 25) Q0 Q0 Q0 Q0 ?_
    refine WL.skip (d := 25) Q0 Q0 Q0 Q0 ?_
    refine WL.skip (d := 25) Q0 Q0 Q0 Q0 ?_
    refine WL.skip (d := 25) Q0 Q0 Q0 Q0 ?_
    refine WL.run (d := 20) Q0 Q0 ?_
    refine WL.p Q0 (Yl.pickF Q0 Q0) ?_
    refine WL.p Q0 (Yl.pickF Q0 Q0) ?_
    refine Qm ?_
    refine WL.run (d := 32) Q0 Q0 ?_
    refine Qm ?_
    refine WL.run (d := 32) Q0 Q0 ?_
    refine Qm ?_
    refine WL.run (d := 32) Q0 Q0 ?_
    refine WL.p Q0 (Yl.index str9 Q0 Q0 Q0 (by first | assumption | exact List.getElem?_eq_getElem Q7)) ?_
    refine WL.run (d := 32) Q0 Q0 ?_
    refine WL.p Q0 (Yl.eqi Q0 Q0) ?_
    refine WL.p Q0 (Yl.pickF Q0 Q0) ?_
    refine WL.p Q0 (Yl.not Q0) ?_
    refine WL.next ?_
    refine WC.condS Q0 (fun h4 => ?_) (fun h4 => ?_)
    ·
     replace h4 := not_eq_true h4
     replace h4 := of_decide_eq_false h4
     refine WC.seq ?_
     refine Qa ?_
     refine WL.next ?_
     refine WC.ret ?_
     refine At.blockret ?_
     refine At.thenret ?_
     refine At.thenret ?_
     refine At.blockret ?_
     refine At.thenret ?_
     refine fin1' rfl Q0 ?_
     refine RetP.mk hs ?_
     first
      | (simp [isValue, hJ, valueByte, lower, digit]; done)
      | (simp [isValue, hJ, valueByte, lower, digit]; omega)
      | simp_all [isValue, hJ, valueByte, lower, digit]
    ·
     replace h4 := not_eq_false h4
     replace h4 := of_decide_eq_true h4
     refine WC.skip ?_
     refine At.blocknormal ?_
     refine At.then_ ?_
     refine WC.region ?_
     refine Qm ?_
     refine WL.p Q0 (Yl.add Q0 Q0 Q7) ?_
     refine Qa ?_
     refine WL.nil ?_
     refine At.roundC (k + 1) (hs.only Q2) ⟨by rfl, trivial⟩ ⟨by rfl, trivial⟩ ?_ ?_
     ·
      omega
     ·
      rw [hJ]; simp [valueByte, lower, digit]; omega
 ·
  replace h1 := of_decide_eq_false h1
  rw [drop_out (l := s) Q7] at hJ
  refine WC.exit ?_
  refine At.thenexit ?_
  refine At.thenexit ?_
  refine At.blockexit ?_
  refine At.then_ ?_
  refine WC.seq ?_
  refine Qm ?_
  refine WL.p Q0 (Yl.len_str str9 Q0) ?_
  refine WL.callp hs Q0 (Yc.func Q0 fn90) (c_impl_InRange _ _ _ _) ?_
  clear hs; intro w hs
  refine Qa ?_
  refine WL.next ?_
  refine WC.ret ?_
  refine fin1' rfl Q0 ?_
  refine RetP.mk hs ?_
  first
   | (simp [isValue, hJ, valueByte, lower, digit]; done)
   | (simp [isValue, hJ, valueByte, lower, digit]; omega)
   | simp_all [isValue, hJ, valueByte, lower, digit]

theorem c_impl_IsRequest (r : TRequest) (w : World) (h_r : Ph.ok w r)  : Calls Tryz.prog 165 [.agg #[I r.kind, S r.to.host, S r.to.path, S r.frm, S r.digest]].toArray w (RetP w (Bo (r.is))) := by
 refine enterN 26 Tryz.func165 rfl rfl rfl ?_
 have hs := Sat.start w
 refine WC.seq ?_
 refine WL.r Q0 (Yr.box hs Q0 Q0) ?_
 clear hs; rintro _ w ⟨b1, rfl, hb, hs⟩; clear hb
 refine Qa ?_
 refine WL.next ?_
 refine WC.seq ?_
 refine WL.p Q0 (Yl.fieldAddr fa110_0 Q0) ?_
 refine WL.p Q0 (Yl.loadB sca3 Q0 hs Q1 Q0) ?_
 refine WL.callp hs Q0 (Yc.func Q0 fn90) (c_impl_InRange _ _ _ _) ?_
 clear hs; intro w hs
 refine Qm ?_
 refine WL.split (d := 6) Q0 (fun h1 => ?_) (fun h1 => ?_)
 ·
  replace h1 := inR_true.1 h1
  refine WL.run (d := 6) Q0 Q0 ?_
  refine WL.p Q0 (Yl.fieldAddr fa110_1 Q0) ?_
  refine WL.run (d := 6) Q0 Q0 ?_
  refine WL.p Q0 (Yl.loadAB agg39 Q0 hs Q1 Q0 Q0) ?_
  refine WL.run (d := 6) Q0 Q0 ?_
  refine WL.callp hs Q0 (Yc.func Q0 fn121) (c_impl_IsAddr _ _ ⟨(Ph.old h_r.to.host hs), (Ph.old h_r.to.path hs)⟩) ?_
  clear hs; intro w hs
  refine WL.p Q0 (Yl.pickT Q0 Q0) ?_
  refine Qm ?_
  refine WL.split (d := 11) Q0 (fun h2 => ?_) (fun h2 => ?_)
  ·
   refine WL.run (d := 11) Q0 Q0 ?_
   refine WL.p Q0 (Yl.fieldAddr fa110_2 Q0) ?_
   refine WL.run (d := 11) Q0 Q0 ?_
   refine WL.p Q0 (Yl.loadB sca9 Q0 hs Q1 Q0) ?_
   refine WL.run (d := 11) Q0 Q0 ?_
   refine WL.callp hs Q0 (Yc.func Q0 fn106) (c_impl_IsName _ _ (Ph.old h_r.frm hs)) ?_
   clear hs; intro w hs
   refine WL.p Q0 (Yl.pickT Q0 Q0) ?_
   refine Qm ?_
   refine WL.split (d := 16) Q0 (fun h3 => ?_) (fun h3 => ?_)
   ·
    refine WL.run (d := 16) Q0 Q0 ?_
    refine WL.p Q0 (Yl.fieldAddr fa110_3 Q0) ?_
    refine WL.run (d := 16) Q0 Q0 ?_
    refine WL.p Q0 (Yl.loadB sca9 Q0 hs Q1 Q0) ?_
    refine WL.run (d := 16) Q0 Q0 ?_
    refine WL.p Q0 (Yl.eqs Q0 Q0) ?_
    refine WL.run (d := 16) Q0 Q0 ?_
    refine Qm ?_
    refine WL.split (d := 20) Q0 (fun h4 => ?_) (fun h4 => ?_)
    ·
     replace h4 := of_decide_eq_true h4
     refine WL.skip (d := 20) Q0 Q0 Q0 Q0 ?_
     refine WL.skip (d := 20) Q0 Q0 Q0 Q0 ?_
     refine WL.skip (d := 20) Q0 Q0 Q0 Q0 ?_
     refine WL.run (d := 16) Q0 Q0 ?_
     refine WL.p Q0 (Yl.pickT Q0 Q0) ?_
     refine WL.p Q0 (Yl.pickT Q0 Q0) ?_
     refine Qa ?_
     refine WL.next ?_
     refine WC.ret ?_
     refine fin1' rfl Q0 ?_
     refine RetP.mk hs ?_
     first
      | (rw [← inR_true] at h1; simp_all [TRequest.is]; done)
      | (rw [← inR_false] at h1; simp_all [TRequest.is])
    ·
     replace h4 := of_decide_eq_false h4
     refine WL.run (d := 20) Q0 Q0 ?_
     refine WL.p Q0 (Yl.fieldAddr fa110_3 Q0) ?_
     refine WL.run (d := 20) Q0 Q0 ?_
     refine WL.p Q0 (Yl.loadB sca9 Q0 hs Q1 Q0) ?_
     refine WL.run (d := 20) Q0 Q0 ?_
     refine WL.callp hs Q0 (Yc.func Q0 fn234) (c_impl_IsValue _ _ (Ph.old h_r.digest hs)) ?_
     clear hs; intro w hs
     refine WL.run (d := 16) Q0 Q0 ?_
     refine WL.p Q0 (Yl.pickF Q0 Q0) ?_
     refine WL.p Q0 (Yl.pickT Q0 Q0) ?_
     refine Qa ?_
     refine WL.next ?_
     refine WC.ret ?_
     refine fin1' rfl Q0 ?_
     refine RetP.mk hs ?_
     first
      | (rw [← inR_true] at h1; simp_all [TRequest.is]; done)
      | (rw [← inR_false] at h1; simp_all [TRequest.is])
   ·
    refine WL.skip (d := 16) Q0 Q0 Q0 Q0 ?_
    refine WL.skip (d := 16) Q0 Q0 Q0 Q0 ?_
    refine WL.skip (d := 16) Q0 Q0 Q0 Q0 ?_
    refine WL.skip (d := 16) Q0 Q0 Q0 Q0 ?_
    refine WL.skipU (d := 20) Q0 Q0 Q0 ?_
    refine WL.skipU (d := 20) Q0 Q0 Q0 ?_
    refine WL.skipU (d := 20) Q0 Q0 Q0 ?_
    refine WL.skip (d := 16) Q0 Q0 Q0 Q0 ?_
    refine WL.p Q0 (Yl.pickF Q0 Q0) ?_
    refine Qa ?_
    refine WL.next ?_
    refine WC.ret ?_
    refine fin1' rfl Q0 ?_
    refine RetP.mk hs ?_
    first
     | (rw [← inR_true] at h1; simp_all [TRequest.is]; done)
     | (rw [← inR_false] at h1; simp_all [TRequest.is])
  ·
   refine WL.skip (d := 11) Q0 Q0 Q0 Q0 ?_
   refine WL.skip (d := 11) Q0 Q0 Q0 Q0 ?_
   refine WL.skip (d := 11) Q0 Q0 Q0 Q0 ?_
   refine WL.p Q0 (Yl.pickF Q0 Q0) ?_
   refine Qm ?_
   refine WL.skip (d := 16) Q0 Q0 Q0 Q0 ?_
   refine WL.skip (d := 16) Q0 Q0 Q0 Q0 ?_
   refine WL.skip (d := 16) Q0 Q0 Q0 Q0 ?_
   refine WL.skip (d := 16) Q0 Q0 Q0 Q0 ?_
   refine WL.skipU (d := 20) Q0 Q0 Q0 ?_
   refine WL.skipU (d := 20) Q0 Q0 Q0 ?_
   refine WL.skipU (d := 20) Q0 Q0 Q0 ?_
   refine WL.skip (d := 16) Q0 Q0 Q0 Q0 ?_
   refine WL.p Q0 (Yl.pickF Q0 Q0) ?_
   refine Qa ?_
   refine WL.next ?_
   refine WC.ret ?_
   refine fin1' rfl Q0 ?_
   refine RetP.mk hs ?_
   first
    | (rw [← inR_true] at h1; simp_all [TRequest.is]; done)
    | (rw [← inR_false] at h1; simp_all [TRequest.is])
 ·
  replace h1 := inR_false.1 h1
  refine WL.skip (d := 6) Q0 Q0 Q0 Q0 ?_
  refine WL.skip (d := 6) Q0 Q0 Q0 Q0 ?_
  refine WL.skip (d := 6) Q0 Q0 Q0 Q0 ?_
  refine WL.p Q0 (Yl.pickF Q0 Q0) ?_
  refine Qm ?_
  refine WL.skip (d := 11) Q0 Q0 Q0 Q0 ?_
  refine WL.skip (d := 11) Q0 Q0 Q0 Q0 ?_
  refine WL.skip (d := 11) Q0 Q0 Q0 Q0 ?_
  refine WL.p Q0 (Yl.pickF Q0 Q0) ?_
  refine Qm ?_
  refine WL.skip (d := 16) Q0 Q0 Q0 Q0 ?_
  refine WL.skip (d := 16) Q0 Q0 Q0 Q0 ?_
  refine WL.skip (d := 16) Q0 Q0 Q0 Q0 ?_
  refine WL.skip (d := 16) Q0 Q0 Q0 Q0 ?_
  refine WL.skipU (d := 20) Q0 Q0 Q0 ?_
  refine WL.skipU (d := 20) Q0 Q0 Q0 ?_
  refine WL.skipU (d := 20) Q0 Q0 Q0 ?_
  refine WL.skip (d := 16) Q0 Q0 Q0 Q0 ?_
  refine WL.p Q0 (Yl.pickF Q0 Q0) ?_
  refine Qa ?_
  refine WL.next ?_
  refine WC.ret ?_
  refine fin1' rfl Q0 ?_
  refine RetP.mk hs ?_
  first
   | (rw [← inR_true] at h1; simp_all [TRequest.is]; done)
   | (rw [← inR_false] at h1; simp_all [TRequest.is])

theorem c_impl_CheckRequest (p : PPolicy) (r : TRequest) (w : World) (h_p : Ph.ok w p) (h_r : Ph.ok w r)  : Calls Tryz.prog 65 [.agg #[Bo p.set, Sl.v p.scripts, Sl.v p.styles, Sl.v p.images, S p.nonce], .agg #[I r.kind, S r.to.host, S r.to.path, S r.frm, S r.digest]].toArray w (RetP w (I (checkReq p.lg r))) := by
 refine enterN 23 Tryz.func65 rfl rfl rfl ?_
 have hs := Sat.start w
 refine WC.seq ?_
 refine WL.r Q0 (Yr.box hs Q0 Q0) ?_
 clear hs; rintro _ w ⟨b1, rfl, hb, hs⟩; clear hb
 refine WL.r Q0 (Yr.box hs Q0 Q0) ?_
 clear hs; rintro _ w ⟨b2, rfl, hb, hs⟩; clear hb
 refine Qa ?_
 refine WL.next ?_
 refine WC.seq' ?_
 refine WC.seq ?_
 refine WL.p Q0 (Yl.loadAB agg110 Q0 hs Q1 Q0 Q0) ?_
 refine WL.callp hs Q0 (Yc.func Q0 fn165) (c_impl_IsRequest _ _ (Ph.old h_r hs)) ?_
 clear hs; intro w hs
 refine WL.p Q0 (Yl.not Q0) ?_
 refine Qm ?_
 refine WL.split (d := 8) Q0 (fun h1 => ?_) (fun h1 => ?_)
 ·
  replace h1 := not_eq_true h1
  refine WL.skip (d := 8) Q0 Q0 Q0 Q0 ?_
  refine WL.skip (d := 8) Q0 Q0 Q0 Q0 ?_
  refine WL.skip (d := 8) Q0 Q0 Q0 Q0 ?_
  refine WL.skip (d := 8) Q0 Q0 Q0 Q0 ?_
  refine WL.skipU (d := 12) Q0 Q0 Q0 ?_
  refine WL.skipU (d := 12) Q0 Q0 Q0 ?_
  refine WL.skipU (d := 12) Q0 Q0 Q0 ?_
  refine WL.skipU (d := 12) Q0 Q0 Q0 ?_
  refine WL.skipU (d := 12) Q0 Q0 Q0 ?_
  refine WL.skipU (d := 12) Q0 Q0 Q0 ?_
  refine WL.skipU (d := 12) Q0 Q0 Q0 ?_
  refine WL.skipU (d := 12) Q0 Q0 Q0 ?_
  refine WL.skip (d := 8) Q0 Q0 Q0 Q0 ?_
  refine WL.p Q0 (Yl.pickT Q0 Q0) ?_
  refine WL.next ?_
  refine WC.condT Q0 ?_
  refine WC.seq ?_
  refine Qa ?_
  refine WL.next ?_
  refine WC.ret ?_
  refine At.thenret ?_
  refine fin1' rfl Q0 ?_
  refine RetP.mk hs ?_
  simp_all [checkReq]
 ·
  replace h1 := not_eq_false h1
  refine WL.run (d := 8) Q0 Q0 ?_
  refine WL.p Q0 (Yl.fieldAddr fa110_0 Q0) ?_
  refine WL.run (d := 8) Q0 Q0 ?_
  refine WL.p Q0 (Yl.loadB sca3 Q0 hs Q1 Q0) ?_
  refine WL.run (d := 8) Q0 Q0 ?_
  refine WL.p Q0 (Yl.nei Q0 Q0) ?_
  refine WL.run (d := 8) Q0 Q0 ?_
  refine Qm ?_
  refine WL.split (d := 12) Q0 (fun h2 => ?_) (fun h2 => ?_)
  ·
   replace h2 := not_eq_true h2
   replace h2 := of_decide_eq_false h2
   refine WL.run (d := 12) Q0 Q0 ?_
   refine WL.p Q0 (Yl.loadAB agg108 Q0 hs Q1 Q0 Q0) ?_
   refine WL.run (d := 12) Q0 Q0 ?_
   refine WL.p Q0 (Yl.fieldAddr fa110_0 Q0) ?_
   refine WL.run (d := 12) Q0 Q0 ?_
   refine WL.p Q0 (Yl.loadB sca3 Q0 hs Q1 Q0) ?_
   refine WL.run (d := 12) Q0 Q0 ?_
   refine WL.p Q0 (Yl.fieldAddr fa110_1 Q0) ?_
   refine WL.run (d := 12) Q0 Q0 ?_
   refine WL.p Q0 (Yl.fieldAddr fa39_0 Q0) ?_
   refine WL.run (d := 12) Q0 Q0 ?_
   refine WL.p Q0 (Yl.loadB sca9 Q0 hs Q1 Q0) ?_
   refine WL.run (d := 12) Q0 Q0 ?_
   refine WL.callp hs Q0 (Yc.func Q0 fn66) (c_impl_Allows _ _ _ _ (Ph.old h_p hs)) ?_
   clear hs; intro w hs
   refine WL.run (d := 12) Q0 Q0 ?_
   refine WL.p Q0 (Yl.not Q0) ?_
   refine WL.run (d := 8) Q0 Q0 ?_
   refine WL.p Q0 (Yl.pickT Q0 Q0) ?_
   refine WL.p Q0 (Yl.pickF Q0 Q0) ?_
   refine WL.next ?_
   refine WC.condS Q0 (fun h3 => ?_) (fun h3 => ?_)
   ·
    replace h3 := not_eq_true h3
    refine WC.seq ?_
    refine Qa ?_
    refine WL.next ?_
    refine WC.ret ?_
    refine At.thenret ?_
    refine fin1' rfl Q0 ?_
    refine RetP.mk hs ?_
    simp_all [checkReq]
   ·
    replace h3 := not_eq_false h3
    refine WC.skipn ?_
    refine WC.seq ?_
    refine Qa ?_
    refine WL.next ?_
    refine WC.ret ?_
    refine fin1' rfl Q0 ?_
    refine RetP.mk hs ?_
    simp_all [checkReq]
  ·
   replace h2 := not_eq_false h2
   replace h2 := of_decide_eq_true h2
   refine WL.skip (d := 12) Q0 Q0 Q0 Q0 ?_
   refine WL.skip (d := 12) Q0 Q0 Q0 Q0 ?_
   refine WL.skip (d := 12) Q0 Q0 Q0 Q0 ?_
   refine WL.skip (d := 12) Q0 Q0 Q0 Q0 ?_
   refine WL.skip (d := 12) Q0 Q0 Q0 Q0 ?_
   refine WL.skip (d := 12) Q0 Q0 Q0 Q0 ?_
   refine WL.skip (d := 12) Q0 Q0 Q0 Q0 ?_
   refine WL.skip (d := 12) Q0 Q0 Q0 Q0 ?_
   refine WL.run (d := 8) Q0 Q0 ?_
   refine WL.p Q0 (Yl.pickF Q0 Q0) ?_
   refine WL.p Q0 (Yl.pickF Q0 Q0) ?_
   refine WL.next ?_
   refine WC.condF Q0 ?_
   refine WC.skipn ?_
   refine WC.seq ?_
   refine Qa ?_
   refine WL.next ?_
   refine WC.ret ?_
   refine fin1' rfl Q0 ?_
   refine RetP.mk hs ?_
   simp_all [checkReq]

theorem c_strings_Split (s : Str) (sep : Str) (w : World)  (h1 : s.length ≤ 2097152) (h2 : sep = [sep.headD 0]) (hm_ : ∃ m, w.cell? ⟨0, 0, none⟩ = some (.int .i64 m)) : Calls Tryz.prog 103 [S s, S sep].toArray w (Ret w (fun v w' => ∃ x : Sl Str, v = x.v ∧ x.l = splitC (sep.headD 0) s ∧ Fresh w x w')) := by
 rw [h2]; exact split_calls Tryz.strings_Split s (sep.headD 0) w h1 hm_

theorem c_strings_TrimPrefix (s : Str) (prefix_ : Str) (w : World)   : Calls Tryz.prog 274 [S s, S prefix_].toArray w (RetP w (S (if prefix_.isPrefixOf s then s.drop prefix_.length else s))) := by
 exact trim_calls Tryz.strings_TrimPrefix s prefix_ w

theorem c_strings_Join (elems : (Sl Str)) (sep : Str) (w : World) (h_elems : Ph.ok w elems) (h1 : elems.l.length ≤ 140737488355328) (h2 : (joinS elems.l sep).length ≤ 140737488355328) : Calls Tryz.prog 113 [Sl.v elems, S sep].toArray w (RetP w (S (joinS elems.l sep))) := by
 exact join_calls Tryz.strings_Join_none Tryz.strings_Join elems sep w h_elems h1 h2

theorem c_slices_IndexFunc___string_string_ (s : (Sl Str)) (f : FuncId) (us_f : List Value) (p_f : Str → Bool) (w : World) (h_s : Ph.ok w s)  (hfn_f : FN Tryz.prog f) (hf_f : ∀ x ∈ s.l, ∀ w', Below w.heap.size w w' → Calls Tryz.prog f (([S x] : List Value) ++ us_f).toArray w' (RetP w' (Bo (p_f x)))) : Calls Tryz.prog 379 [Sl.v s, .func (.func f) #[] us_f.toArray].toArray w (RetP w (I (idxF (p_f) s.l 0))) := by
 have hw := h_s.lt
 refine enterN 19 Tryz.func379 rfl rfl rfl ?_
 have hs := Sat.start w
 refine WC.seq ?_
 refine Qa ?_
 refine WL.next ?_
 refine WC.seq' ?_
 refine WC.seq ?_
 refine Qm ?_
 refine WL.p Q0 (Yl.len_sl slu34 Q0) ?_
 refine Qm ?_
 refine WL.next ?_
 refine WC.block ?_
 refine WC.loopC (ι := Nat) (fun k => s.l.length - k) (fun k => [(8, I (k : Int))]) (fun _ => []) (fun k => idxF (p_f) s.l 0 = idxF (p_f) (s.l.drop k) k) [(0, _), (1, _), (7, _)] 0 (hs) ⟨by rfl, by rfl, by rfl, trivial⟩ ⟨by rfl, trivial⟩ ?_ ?_
 ·
  simp
 clear hs; rintro k w hJ hs
 simp only [List.nil_append] at hs
 refine WC.seq ?_
 refine WL.p Q0 (Yl.lss Q0 Q0) ?_
 refine WL.next ?_
 refine WC.seq' ?_
 refine WC.condS Q0 (fun h1 => ?_) (fun h1 => ?_)
 ·
  replace h1 := of_decide_eq_true h1
  obtain ⟨d, hd⟩ := exists_get (l := s.l) (k := k) Q7
  rw [drop_cons hd] at hJ
  refine WC.skipn ?_
  refine WC.seq' ?_
  refine WC.block ?_
  refine WC.seq ?_
  refine Qm ?_
  refine Qa ?_
  refine WL.next ?_
  refine WC.seq ?_
  refine Qm ?_
  refine Qm ?_
  refine Qm ?_
  refine WL.p Q0 (Yl.indexAddr slt34 Q0 Q0 (Ph.old h_s hs) Q0 (hd)) ?_
  refine WL.p Q0 (Yl.loadC0 sca9 Q0 (Sl.Ok.at_ (Ph.old h_s hs) (by assumption)).2 Q0) ?_
  refine WL.callp hs Q0 (Yc.value Q0 Q0 hfn_f Q0) (hf_f _ (List.mem_of_getElem? (by assumption)) _ hs.below) ?_
  clear hs; intro w hs
  refine WL.next ?_
  refine WC.condS Q0 (fun h2 => ?_) (fun h2 => ?_)
  ·
   refine WC.seq ?_
   refine Qm ?_
   refine Qa ?_
   refine WL.next ?_
   refine WC.ret ?_
   refine At.blockret ?_
   refine At.thenret ?_
   refine At.thenret ?_
   refine At.blockret ?_
   refine At.thenret ?_
   refine fin1' rfl Q0 ?_
   refine RetP.mk hs ?_
   rw [hJ]; simp_all [idxF]
  ·
   refine WC.skip ?_
   refine At.blocknormal ?_
   refine At.then_ ?_
   refine WC.region ?_
   refine WL.p Q0 (Yl.add Q0 Q0 Q7) ?_
   refine Qm ?_
   refine WL.nil ?_
   refine At.roundC (k + 1) (hs.only Q2) ⟨by rfl, by rfl, by rfl, trivial⟩ ⟨by rfl, trivial⟩ ?_ ?_
   ·
    omega
   ·
    rw [hJ]; simp_all [idxF]
 ·
  replace h1 := of_decide_eq_false h1
  rw [drop_out (l := s.l) Q7] at hJ
  refine WC.exit ?_
  refine At.thenexit ?_
  refine At.thenexit ?_
  refine At.blockexit ?_
  refine At.then_ ?_
  refine WC.seq ?_
  refine Qa ?_
  refine WL.next ?_
  refine WC.ret ?_
  refine fin1' rfl Q0 ?_
  refine RetP.mk hs ?_
  rw [hJ]; simp_all [idxF]

theorem c_slices_ContainsFunc___string_string_ (s : (Sl Str)) (f : FuncId) (us_f : List Value) (p_f : Str → Bool) (w : World) (h_s : Ph.ok w s)  (hfn_f : FN Tryz.prog f) (hf_f : ∀ x ∈ s.l, ∀ w', Below w.heap.size w w' → Calls Tryz.prog f (([S x] : List Value) ++ us_f).toArray w' (RetP w' (Bo (p_f x)))) : Calls Tryz.prog 369 [Sl.v s, .func (.func f) #[] us_f.toArray].toArray w (RetP w (Bo (s.l.any p_f))) := by
 refine enterN 9 Tryz.func369 rfl rfl rfl ?_
 have hs := Sat.start w
 refine WC.seq ?_
 refine Qa ?_
 refine WL.next ?_
 refine WC.seq ?_
 refine Qm ?_
 refine Qm ?_
 refine WL.callp hs Q0 (Yc.func Q0 fn379) (c_slices_IndexFunc___string_string_ _ _ _ p_f _ (Ph.old h_s hs) hfn_f (fun x hx w1 hb1 => hf_f x hx w1 (hs.ext hb1).below)) ?_
 clear hs; intro w hs
 refine WL.p Q0 (Yl.geq Q0 Q0) ?_
 refine Qa ?_
 refine WL.next ?_
 refine WC.ret ?_
 refine fin1' rfl Q0 ?_
 refine RetP.mk hs ?_
 simp only [ge_iff_le, idxF_any]

theorem c_impl_areHosts_1 (s : Str) (w : World) (h_s : Ph.ok w s)  : Calls Tryz.prog 370 [S s].toArray w (RetP w (Bo (!isName s))) := by
 refine enterN 6 Tryz.func370 rfl rfl rfl ?_
 have hs := Sat.start w
 refine WC.seq ?_
 refine Qa ?_
 refine WL.next ?_
 refine WC.seq ?_
 refine Qm ?_
 refine WL.callp hs Q0 (Yc.func Q0 fn106) (c_impl_IsName _ _ (Ph.old h_s hs)) ?_
 clear hs; intro w hs
 refine WL.p Q0 (Yl.not Q0) ?_
 refine Qa ?_
 refine WL.next ?_
 refine WC.ret ?_
 refine fin1' rfl Q0 ?_
 refine RetP.mk hs ?_
 simp_all

theorem c_impl_areHosts (l : (Sl Str)) (w : World) (h_l : Ph.ok w l)  : Calls Tryz.prog 354 [Sl.v l].toArray w (RetP w (Bo (hosts l.l))) := by
 have hw := h_l.lt
 refine enterN 11 Tryz.func354 rfl rfl rfl ?_
 have hs := Sat.start w
 refine WC.seq ?_
 refine Qa ?_
 refine WL.next ?_
 refine WC.seq ?_
 refine Qm ?_
 refine WL.p Q0 (Yl.len_sl slu34 Q0) ?_
 refine WL.p Q0 (Yl.leq Q0 Q0) ?_
 refine Qm ?_
 refine WL.split (d := 6) Q0 (fun h1 => ?_) (fun h1 => ?_)
 ·
  replace h1 := of_decide_eq_true h1
  refine WL.run (d := 6) Q0 Q0 ?_
  refine Qm ?_
  refine WL.run (d := 6) Q0 Q0 ?_
  refine WL.callp hs Q0 (Yc.func Q0 fn369) (c_slices_ContainsFunc___string_string_ _ 370 _ (fun x => !isName x) _ (Ph.old h_l hs) fn370 (fun x hx w1 hb1 => c_impl_areHosts_1 x w1 (Ph.ext hb1 ((Ph.old h_l hs).elems x hx)))) ?_
  clear hs; intro w hs
  refine WL.run (d := 6) Q0 Q0 ?_
  refine WL.p Q0 (Yl.not Q0) ?_
  refine WL.p Q0 (Yl.pickT Q0 Q0) ?_
  refine Qa ?_
  refine WL.next ?_
  refine WC.ret ?_
  refine fin1' rfl Q0 ?_
  refine RetP.mk hs ?_
  rw [any_not_all]
  simp [hosts]; omega
 ·
  replace h1 := of_decide_eq_false h1
  refine WL.skip (d := 6) Q0 Q0 Q0 Q0 ?_
  refine WL.skip (d := 6) Q0 Q0 Q0 Q0 ?_
  refine WL.skip (d := 6) Q0 Q0 Q0 Q0 ?_
  refine WL.p Q0 (Yl.pickF Q0 Q0) ?_
  refine Qa ?_
  refine WL.next ?_
  refine WC.ret ?_
  refine fin1' rfl Q0 ?_
  refine RetP.mk hs ?_
  simp [hosts]; omega

theorem c_impl_IsPolicy (p : PPolicy) (w : World) (h_p : Ph.ok w p)  : Calls Tryz.prog 326 [.agg #[Bo p.set, Sl.v p.scripts, Sl.v p.styles, Sl.v p.images, S p.nonce]].toArray w (RetP w (Bo (p.lg.is))) := by
 refine enterN 50 Tryz.func326 rfl rfl rfl ?_
 have hs := Sat.start w
 refine WC.seq ?_
 refine WL.r Q0 (Yr.box hs Q0 Q0) ?_
 clear hs; rintro _ w ⟨b1, rfl, hb, hs⟩; clear hb
 refine Qa ?_
 refine WL.next ?_
 refine WC.seq' ?_
 refine WC.seq ?_
 refine WL.p Q0 (Yl.fieldAddr fa108_0 Q0) ?_
 refine WL.p Q0 (Yl.loadB sca4 Q0 hs Q1 Q0) ?_
 refine WL.p Q0 (Yl.not Q0) ?_
 refine WL.next ?_
 refine WC.condS Q0 (fun h1 => ?_) (fun h1 => ?_)
 ·
  replace h1 := not_eq_true h1
  refine WC.seq ?_
  refine WL.p Q0 (Yl.fieldAddr fa108_1 Q0) ?_
  refine WL.p Q0 (Yl.loadB sca34 Q0 hs Q1 Q0) ?_
  refine WL.p Q0 (Yl.len_sl slu34 Q0) ?_
  refine WL.p Q0 (Yl.eqi Q0 Q0) ?_
  refine Qm ?_
  refine WL.split (d := 10) Q0 (fun h2 => ?_) (fun h2 => ?_)
  ·
   replace h2 := of_decide_eq_true h2
   refine WL.run (d := 10) Q0 Q0 ?_
   refine WL.p Q0 (Yl.fieldAddr fa108_2 Q0) ?_
   refine WL.run (d := 10) Q0 Q0 ?_
   refine WL.p Q0 (Yl.loadB sca34 Q0 hs Q1 Q0) ?_
   refine WL.run (d := 10) Q0 Q0 ?_
   refine WL.p Q0 (Yl.len_sl slu34 Q0) ?_
   refine WL.run (d := 10) Q0 Q0 ?_
   refine WL.p Q0 (Yl.eqi Q0 Q0) ?_
   refine WL.p Q0 (Yl.pickT Q0 Q0) ?_
   refine Qm ?_
   refine WL.split (d := 16) Q0 (fun h3 => ?_) (fun h3 => ?_)
   ·
    replace h3 := of_decide_eq_true h3
    refine WL.run (d := 16) Q0 Q0 ?_
    refine WL.p Q0 (Yl.fieldAddr fa108_3 Q0) ?_
    refine WL.run (d := 16) Q0 Q0 ?_
    refine WL.p Q0 (Yl.loadB sca34 Q0 hs Q1 Q0) ?_
    refine WL.run (d := 16) Q0 Q0 ?_
    refine WL.p Q0 (Yl.len_sl slu34 Q0) ?_
    refine WL.run (d := 16) Q0 Q0 ?_
    refine WL.p Q0 (Yl.eqi Q0 Q0) ?_
    refine WL.p Q0 (Yl.pickT Q0 Q0) ?_
    refine Qm ?_
    refine WL.split (d := 22) Q0 (fun h4 => ?_) (fun h4 => ?_)
    ·
     replace h4 := of_decide_eq_true h4
     refine WL.run (d := 22) Q0 Q0 ?_
     refine WL.p Q0 (Yl.fieldAddr fa108_4 Q0) ?_
     refine WL.run (d := 22) Q0 Q0 ?_
     refine WL.p Q0 (Yl.loadB sca9 Q0 hs Q1 Q0) ?_
     refine WL.run (d := 22) Q0 Q0 ?_
     refine WL.p Q0 (Yl.eqs Q0 Q0) ?_
     refine WL.p Q0 (Yl.pickT Q0 Q0) ?_
     refine Qa ?_
     refine WL.next ?_
     refine WC.ret ?_
     refine At.thenret ?_
     refine fin1' rfl Q0 ?_
     refine RetP.mk hs ?_
     simp_all [TPolicy.is]
    ·
     replace h4 := of_decide_eq_false h4
     refine WL.skip (d := 22) Q0 Q0 Q0 Q0 ?_
     refine WL.skip (d := 22) Q0 Q0 Q0 Q0 ?_
     refine WL.skip (d := 22) Q0 Q0 Q0 Q0 ?_
     refine WL.p Q0 (Yl.pickF Q0 Q0) ?_
     refine Qa ?_
     refine WL.next ?_
     refine WC.ret ?_
     refine At.thenret ?_
     refine fin1' rfl Q0 ?_
     refine RetP.mk hs ?_
     simp_all [TPolicy.is]
   ·
    replace h3 := of_decide_eq_false h3
    refine WL.skip (d := 16) Q0 Q0 Q0 Q0 ?_
    refine WL.skip (d := 16) Q0 Q0 Q0 Q0 ?_
    refine WL.skip (d := 16) Q0 Q0 Q0 Q0 ?_
    refine WL.skip (d := 16) Q0 Q0 Q0 Q0 ?_
    refine WL.p Q0 (Yl.pickF Q0 Q0) ?_
    refine Qm ?_
    refine WL.skip (d := 22) Q0 Q0 Q0 Q0 ?_
    refine WL.skip (d := 22) Q0 Q0 Q0 Q0 ?_
    refine WL.skip (d := 22) Q0 Q0 Q0 Q0 ?_
    refine WL.p Q0 (Yl.pickF Q0 Q0) ?_
    refine Qa ?_
    refine WL.next ?_
    refine WC.ret ?_
    refine At.thenret ?_
    refine fin1' rfl Q0 ?_
    refine RetP.mk hs ?_
    simp_all [TPolicy.is]
  ·
   replace h2 := of_decide_eq_false h2
   refine WL.skip (d := 10) Q0 Q0 Q0 Q0 ?_
   refine WL.skip (d := 10) Q0 Q0 Q0 Q0 ?_
   refine WL.skip (d := 10) Q0 Q0 Q0 Q0 ?_
   refine WL.skip (d := 10) Q0 Q0 Q0 Q0 ?_
   refine WL.p Q0 (Yl.pickF Q0 Q0) ?_
   refine Qm ?_
   refine WL.skip (d := 16) Q0 Q0 Q0 Q0 ?_
   refine WL.skip (d := 16) Q0 Q0 Q0 Q0 ?_
   refine WL.skip (d := 16) Q0 Q0 Q0 Q0 ?_
   refine WL.skip (d := 16) Q0 Q0 Q0 Q0 ?_
   refine WL.p Q0 (Yl.pickF Q0 Q0) ?_
   refine Qm ?_
   refine WL.skip (d := 22) Q0 Q0 Q0 Q0 ?_
   refine WL.skip (d := 22) Q0 Q0 Q0 Q0 ?_
   refine WL.skip (d := 22) Q0 Q0 Q0 Q0 ?_
   refine WL.p Q0 (Yl.pickF Q0 Q0) ?_
   refine Qa ?_
   refine WL.next ?_
   refine WC.ret ?_
   refine At.thenret ?_
   refine fin1' rfl Q0 ?_
   refine RetP.mk hs ?_
   simp_all [TPolicy.is]
 ·
  replace h1 := not_eq_false h1
  refine WC.skipn ?_
  refine WC.seq ?_
  refine WL.p Q0 (Yl.fieldAddr fa108_1 Q0) ?_
  refine WL.p Q0 (Yl.loadB sca34 Q0 hs Q1 Q0) ?_
  refine WL.callp hs Q0 (Yc.func Q0 fn354) (c_impl_areHosts _ _ (Ph.old h_p.scripts hs)) ?_
  clear hs; intro w hs
  refine Qm ?_
  refine WL.split (d := 30) Q0 (fun h2 => ?_) (fun h2 => ?_)
  ·
   refine WL.run (d := 30) Q0 Q0 ?_
   refine WL.p Q0 (Yl.fieldAddr fa108_2 Q0) ?_
   refine WL.run (d := 30) Q0 Q0 ?_
   refine WL.p Q0 (Yl.loadB sca34 Q0 hs Q1 Q0) ?_
   refine WL.run (d := 30) Q0 Q0 ?_
   refine WL.callp hs Q0 (Yc.func Q0 fn354) (c_impl_areHosts _ _ (Ph.old h_p.styles hs)) ?_
   clear hs; intro w hs
   refine WL.p Q0 (Yl.pickT Q0 Q0) ?_
   refine Qm ?_
   refine WL.split (d := 35) Q0 (fun h3 => ?_) (fun h3 => ?_)
   ·
    refine WL.run (d := 35) Q0 Q0 ?_
    refine WL.p Q0 (Yl.fieldAddr fa108_3 Q0) ?_
    refine WL.run (d := 35) Q0 Q0 ?_
    refine WL.p Q0 (Yl.loadB sca34 Q0 hs Q1 Q0) ?_
    refine WL.run (d := 35) Q0 Q0 ?_
    refine WL.callp hs Q0 (Yc.func Q0 fn354) (c_impl_areHosts _ _ (Ph.old h_p.images hs)) ?_
    clear hs; intro w hs
    refine WL.p Q0 (Yl.pickT Q0 Q0) ?_
    refine Qm ?_
    refine WL.split (d := 40) Q0 (fun h4 => ?_) (fun h4 => ?_)
    ·
     refine WL.run (d := 40) Q0 Q0 ?_
     refine WL.p Q0 (Yl.fieldAddr fa108_4 Q0) ?_
     refine WL.run (d := 40) Q0 Q0 ?_
     refine WL.p Q0 (Yl.loadB sca9 Q0 hs Q1 Q0) ?_
     refine WL.run (d := 40) Q0 Q0 ?_
     refine WL.p Q0 (Yl.eqs Q0 Q0) ?_
     refine WL.run (d := 40) Q0 Q0 ?_
     refine Qm ?_
     refine WL.split (d := 44) Q0 (fun h5 => ?_) (fun h5 => ?_)
     ·
      replace h5 := of_decide_eq_true h5
      refine WL.skip (d := 44) Q0 Q0 Q0 Q0 ?_
      refine WL.skip (d := 44) Q0 Q0 Q0 Q0 ?_
      refine WL.skip (d := 44) Q0 Q0 Q0 Q0 ?_
      refine WL.run (d := 40) Q0 Q0 ?_
      refine WL.p Q0 (Yl.pickT Q0 Q0) ?_
      refine WL.p Q0 (Yl.pickT Q0 Q0) ?_
      refine Qa ?_
      refine WL.next ?_
      refine WC.ret ?_
      refine fin1' rfl Q0 ?_
      refine RetP.mk hs ?_
      simp_all [TPolicy.is]
     ·
      replace h5 := of_decide_eq_false h5
      refine WL.run (d := 44) Q0 Q0 ?_
      refine WL.p Q0 (Yl.fieldAddr fa108_4 Q0) ?_
      refine WL.run (d := 44) Q0 Q0 ?_
      refine WL.p Q0 (Yl.loadB sca9 Q0 hs Q1 Q0) ?_
      refine WL.run (d := 44) Q0 Q0 ?_
      refine WL.callp hs Q0 (Yc.func Q0 fn234) (c_impl_IsValue _ _ (Ph.old h_p.nonce hs)) ?_
      clear hs; intro w hs
      refine WL.run (d := 40) Q0 Q0 ?_
      refine WL.p Q0 (Yl.pickF Q0 Q0) ?_
      refine WL.p Q0 (Yl.pickT Q0 Q0) ?_
      refine Qa ?_
      refine WL.next ?_
      refine WC.ret ?_
      refine fin1' rfl Q0 ?_
      refine RetP.mk hs ?_
      simp_all [TPolicy.is]
    ·
     refine WL.skip (d := 40) Q0 Q0 Q0 Q0 ?_
     refine WL.skip (d := 40) Q0 Q0 Q0 Q0 ?_
     refine WL.skip (d := 40) Q0 Q0 Q0 Q0 ?_
     refine WL.skip (d := 40) Q0 Q0 Q0 Q0 ?_
     refine WL.skipU (d := 44) Q0 Q0 Q0 ?_
     refine WL.skipU (d := 44) Q0 Q0 Q0 ?_
     refine WL.skipU (d := 44) Q0 Q0 Q0 ?_
     refine WL.skip (d := 40) Q0 Q0 Q0 Q0 ?_
     refine WL.p Q0 (Yl.pickF Q0 Q0) ?_
     refine Qa ?_
     refine WL.next ?_
     refine WC.ret ?_
     refine fin1' rfl Q0 ?_
     refine RetP.mk hs ?_
     simp_all [TPolicy.is]
   ·
    refine WL.skip (d := 35) Q0 Q0 Q0 Q0 ?_
    refine WL.skip (d := 35) Q0 Q0 Q0 Q0 ?_
    refine WL.skip (d := 35) Q0 Q0 Q0 Q0 ?_
    refine WL.p Q0 (Yl.pickF Q0 Q0) ?_
    refine Qm ?_
    refine WL.skip (d := 40) Q0 Q0 Q0 Q0 ?_
    refine WL.skip (d := 40) Q0 Q0 Q0 Q0 ?_
    refine WL.skip (d := 40) Q0 Q0 Q0 Q0 ?_
    refine WL.skip (d := 40) Q0 Q0 Q0 Q0 ?_
    refine WL.skipU (d := 44) Q0 Q0 Q0 ?_
    refine WL.skipU (d := 44) Q0 Q0 Q0 ?_
    refine WL.skipU (d := 44) Q0 Q0 Q0 ?_
    refine WL.skip (d := 40) Q0 Q0 Q0 Q0 ?_
    refine WL.p Q0 (Yl.pickF Q0 Q0) ?_
    refine Qa ?_
    refine WL.next ?_
    refine WC.ret ?_
    refine fin1' rfl Q0 ?_
    refine RetP.mk hs ?_
    simp_all [TPolicy.is]
  ·
   refine WL.skip (d := 30) Q0 Q0 Q0 Q0 ?_
   refine WL.skip (d := 30) Q0 Q0 Q0 Q0 ?_
   refine WL.skip (d := 30) Q0 Q0 Q0 Q0 ?_
   refine WL.p Q0 (Yl.pickF Q0 Q0) ?_
   refine Qm ?_
   refine WL.skip (d := 35) Q0 Q0 Q0 Q0 ?_
   refine WL.skip (d := 35) Q0 Q0 Q0 Q0 ?_
   refine WL.skip (d := 35) Q0 Q0 Q0 Q0 ?_
   refine WL.p Q0 (Yl.pickF Q0 Q0) ?_
   refine Qm ?_
   refine WL.skip (d := 40) Q0 Q0 Q0 Q0 ?_
   refine WL.skip (d := 40) Q0 Q0 Q0 Q0 ?_
   refine WL.skip (d := 40) Q0 Q0 Q0 Q0 ?_
   refine WL.skip (d := 40) Q0 Q0 Q0 Q0 ?_
   refine WL.skipU (d := 44) Q0 Q0 Q0 ?_
   refine WL.skipU (d := 44) Q0 Q0 Q0 ?_
   refine WL.skipU (d := 44) Q0 Q0 Q0 ?_
   refine WL.skip (d := 40) Q0 Q0 Q0 Q0 ?_
   refine WL.p Q0 (Yl.pickF Q0 Q0) ?_
   refine Qa ?_
   refine WL.next ?_
   refine WC.ret ?_
   refine fin1' rfl Q0 ?_
   refine RetP.mk hs ?_
   simp_all [TPolicy.is]

theorem c_impl_FormatPolicy (p : PPolicy) (w : World) (h_p : Ph.ok w p) (hb : p.lg.size ≤ 2097152) : Calls Tryz.prog 275 [.agg #[Bo p.set, Sl.v p.scripts, Sl.v p.styles, Sl.v p.images, S p.nonce]].toArray w (RetP w (S (fmtPolicy p.lg))) := by
 refine enterN 40 Tryz.func275 rfl rfl rfl ?_
 have hs := Sat.start w
 refine WC.seq ?_
 refine WL.r Q0 (Yr.box hs Q0 Q0) ?_
 clear hs; rintro _ w ⟨b1, rfl, hb, hs⟩; clear hb
 refine Qa ?_
 refine WL.next ?_
 refine WC.seq' ?_
 refine WC.seq ?_
 refine WL.p Q0 (Yl.loadAB agg108 Q0 hs Q1 Q0 Q0) ?_
 refine WL.callp hs Q0 (Yc.func Q0 fn326) (c_impl_IsPolicy _ _ (Ph.old h_p hs)) ?_
 clear hs; intro w hs
 refine WL.p Q0 (Yl.not Q0) ?_
 refine Qm ?_
 refine WL.split (d := 7) Q0 (fun h1 => ?_) (fun h1 => ?_)
 ·
  replace h1 := not_eq_true h1
  refine WL.skip (d := 7) Q0 Q0 Q0 Q0 ?_
  refine WL.skip (d := 7) Q0 Q0 Q0 Q0 ?_
  refine WL.skip (d := 7) Q0 Q0 Q0 Q0 ?_
  refine WL.p Q0 (Yl.pickT Q0 Q0) ?_
  refine WL.next ?_
  refine WC.condT Q0 ?_
  refine WC.seq ?_
  refine Qa ?_
  refine WL.next ?_
  refine WC.ret ?_
  refine At.thenret ?_
  refine fin1' rfl Q0 ?_
  refine RetP.mk hs ?_
  first
   | (simp [fmtPolicy, h1]; done)
   | (simp [fmtPolicy, h2]; done)
   | (simp [fmtPolicy, h1, h2, h3, wordsText]; done)
 ·
  replace h1 := not_eq_false h1
  refine WL.run (d := 7) Q0 Q0 ?_
  refine WL.p Q0 (Yl.fieldAddr fa108_0 Q0) ?_
  refine WL.run (d := 7) Q0 Q0 ?_
  refine WL.p Q0 (Yl.loadB sca4 Q0 hs Q1 Q0) ?_
  refine WL.run (d := 7) Q0 Q0 ?_
  refine WL.p Q0 (Yl.not Q0) ?_
  refine WL.p Q0 (Yl.pickF Q0 Q0) ?_
  refine WL.next ?_
  refine WC.condS Q0 (fun h2 => ?_) (fun h2 => ?_)
  ·
   replace h2 := not_eq_true h2
   refine WC.seq ?_
   refine Qa ?_
   refine WL.next ?_
   refine WC.ret ?_
   refine At.thenret ?_
   refine fin1' rfl Q0 ?_
   refine RetP.mk hs ?_
   first
    | (simp [fmtPolicy, h1]; done)
    | (simp [fmtPolicy, h2]; done)
    | (simp [fmtPolicy, h1, h2, h3, wordsText]; done)
  ·
   replace h2 := not_eq_false h2
   refine WC.skipn ?_
   refine WC.anyn mixed hs ?_
   clear hs; intro w hs
   refine WA.p (i := 1) Q0 Q6 Q6 Q6 Q0 (hs.only Q2) (fun w hs => Yl.fieldAddr fa108_1 Q0) ?_
   refine WA.p (i := 2) Q0 Q6 Q6 Q6 Q0 (hs.only Q2) (fun w hs => Yl.loadB sca34 Q0 hs Q1 Q0) ?_
   refine WA.p (i := 7) Q0 Q6 Q6 Q6 Q0 (hs.only Q2) (fun w hs => Yl.fieldAddr fa108_2 Q0) ?_
   refine WA.p (i := 8) Q0 Q6 Q6 Q6 Q0 (hs.only Q2) (fun w hs => Yl.loadB sca34 Q0 hs Q1 Q0) ?_
   refine WA.p (i := 14) Q0 Q6 Q6 Q6 Q0 (hs.only Q2) (fun w hs => Yl.fieldAddr fa108_3 Q0) ?_
   refine WA.p (i := 15) Q0 Q6 Q6 Q6 Q0 (hs.only Q2) (fun w hs => Yl.loadB sca34 Q0 hs Q1 Q0) ?_
   refine WA.dag' [(⟨0, 12, [], (fun _ v cs => ∃ b, v = .slice (some ⟨b, 0, none⟩) 1 1 ∧ cs = [box b 9 (([S (([115, 99, 114, 105, 112, 116] : Str))]))])⟩, []), (⟨3, 15, [], (fun _ v cs => ∃ (x : Sl Str) (F : List Nat), v = x.v ∧ cs = [ow x F] ∧ x.l = [([115, 99, 114, 105, 112, 116] : Str)] ++ p.scripts.l)⟩, [(0, true)]), (⟨4, 16, [], (fun _ v cs => v = S (joinS ([([115, 99, 114, 105, 112, 116] : Str)] ++ p.scripts.l) ([32] : Str)) ∧ cs = [])⟩, [(1, false)]), (⟨5, 17, [], (fun _ v cs => v = S (((joinS ([([115, 99, 114, 105, 112, 116] : Str)] ++ p.scripts.l) ([32] : Str)) ++ ([59] : Str))) ∧ cs = [])⟩, [(2, false)]), (⟨6, 18, [], (fun _ v cs => ∃ b, v = .slice (some ⟨b, 0, none⟩) 1 1 ∧ cs = [box b 9 (([S (([115, 116, 121, 108, 101] : Str))]))])⟩, []), (⟨9, 21, [], (fun _ v cs => ∃ (x : Sl Str) (F : List Nat), v = x.v ∧ cs = [ow x F] ∧ x.l = [([115, 116, 121, 108, 101] : Str)] ++ p.styles.l)⟩, [(2, false), (4, true)]), (⟨10, 22, [], (fun _ v cs => v = S (joinS ([([115, 116, 121, 108, 101] : Str)] ++ p.styles.l) ([32] : Str)) ∧ cs = [])⟩, [(5, false)]), (⟨11, 23, [], (fun _ v cs => v = S ((((joinS ([([115, 99, 114, 105, 112, 116] : Str)] ++ p.scripts.l) ([32] : Str)) ++ ([59] : Str)) ++ (joinS ([([115, 116, 121, 108, 101] : Str)] ++ p.styles.l) ([32] : Str)))) ∧ cs = [])⟩, [(3, false), (6, false)]), (⟨12, 24, [], (fun _ v cs => v = S (((((joinS ([([115, 99, 114, 105, 112, 116] : Str)] ++ p.scripts.l) ([32] : Str)) ++ ([59] : Str)) ++ (joinS ([([115, 116, 121, 108, 101] : Str)] ++ p.styles.l) ([32] : Str))) ++ ([59] : Str))) ∧ cs = [])⟩, [(7, false)]), (⟨13, 25, [], (fun _ v cs => ∃ b, v = .slice (some ⟨b, 0, none⟩) 1 1 ∧ cs = [box b 9 (([S (([105, 109, 103] : Str))]))])⟩, []), (⟨16, 28, [], (fun _ v cs => ∃ (x : Sl Str) (F : List Nat), v = x.v ∧ cs = [ow x F] ∧ x.l = [([105, 109, 103] : Str)] ++ p.images.l)⟩, [(6, false), (9, true)]), (⟨17, 29, [], (fun _ v cs => v = S (joinS ([([105, 109, 103] : Str)] ++ p.images.l) ([32] : Str)) ∧ cs = [])⟩, [(10, false)])] [true, false, false, false, true, false, false, false, false, true, false, false] [(0, _), (1, _), (2, _), (4, _), (5, _), (6, _), (7, _), (8, _), (9, _), (10, _), (11, _), (13, _), (14, _), (19, _), (20, _), (26, _), (27, _)] ⟨by rfl, by rfl, by rfl, by rfl, by rfl, by rfl, by rfl, by rfl, by rfl, by rfl, by rfl, by rfl, by rfl, by rfl, by rfl, by rfl, by rfl, trivial⟩ Q0 Q6 Q6 Q6 Q6 Q6 Q6 Q6 Q6 (fun _ hs => hs.only Q2) hs (fuel := 2) ⟨⟨local_const, ?_⟩, ⟨local_const, ?_⟩, ⟨local_const, ?_⟩, ⟨local_const, ?_⟩, ⟨local_const, ?_⟩, ⟨local_const, ?_⟩, ⟨local_const, ?_⟩, ⟨local_const, ?_⟩, ⟨local_const, ?_⟩, ⟨local_const, ?_⟩, ⟨local_const, ?_⟩, ⟨local_const, ?_⟩, trivial⟩ ?_
   ·
    clear hs
    intro w R hs
    simp only [List.cons_append, List.nil_append] at hs
    exact Gives.rr' Q0 (Yr.buildSlice hs sll34 Q0 Q0 Q0 Q4 Q0) (fun _ _ ⟨b, hv, _, hs1⟩ => ⟨[box b 9 (([S (([115, 99, 114, 105, 112, 116] : Str))]))], ⟨b, hv, rfl⟩, hs1⟩)
   ·
    clear hs
    rintro _ _ ⟨b2, rfl, rfl⟩
    intro w R hs
    simp only [List.cons_append, List.nil_append] at hs
    replace hs := (Sat.boxow (l := ([([115, 99, 114, 105, 112, 116] : Str)] : List Str)) (hs.sel (D := [box b2 _ _]) Q2) rfl rfl (by simp [maxLen]) (ownL_mk_flat (by intro x hx; obtain rfl := List.mem_singleton.1 hx; show WfS _; unfold WfS; simp)))
    refine Gives.rr' Q0 (Yr.appendS (s := (⟨[([115, 99, 114, 105, 112, 116] : Str)], some ⟨b2, 0, none⟩, _⟩ : Sl Str)) (F := [b2]) (r := p.scripts) hs elt34 Q2 Q0 Q0 (Ph.old h_p.scripts hs) (by simp only [TPolicy.size, PPolicy.lg, strsz, lsz] at hb; simp; unfold maxLen; omega) (by simp only [TPolicy.size, PPolicy.lg, strsz, lsz] at hb; simp; omega)) ?_
    rintro _ w1 ⟨s4, F4, rfl, hl4, hs⟩
    exact ⟨[ow s4 F4], ⟨s4, F4, rfl, rfl, by first | exact hl4 | (simp only [List.append_nil] at hl4 ⊢; exact hl4)⟩, hs⟩
   ·
    clear hs
    rintro _ _ ⟨x5, F5, rfl, rfl, hx5⟩
    intro w R hs
    simp only [List.cons_append, List.nil_append] at hs
    refine Gives.c' Q0 (Yc.func Q0 fn113) (c_strings_Join _ _ _ (hs.okow (x := x5) (F := F5) Q1) (by simp only [hx5]; first | (simp only [TPolicy.size, PPolicy.lg, strsz, lsz] at hb; simp; omega) | (simp only [List.cons_append, List.nil_append]; refine Nat.le_trans (wordsText_len _ _) ?_; simp only [TPolicy.size, PPolicy.lg, List.length_cons, List.length_nil] at hb ⊢; omega)) (by simp only [hx5]; first | (simp only [TPolicy.size, PPolicy.lg, strsz, lsz] at hb; simp; omega) | (simp only [List.cons_append, List.nil_append]; refine Nat.le_trans (wordsText_len _ _) ?_; simp only [TPolicy.size, PPolicy.lg, List.length_cons, List.length_nil] at hb ⊢; omega))) ?_
    rintro _ w1 ⟨rfl, hb⟩
    exact ⟨_, rfl, [], ⟨(by first | rfl | (simp only [hx5])), rfl⟩, hs.ext hb⟩
   ·
    clear hs
    rintro _ _ ⟨rfl, rfl⟩
    intro w R hs
    simp only [List.cons_append, List.nil_append] at hs
    exact Gives.p' Q0 (Yl.cat Q0 Q0 (by have j1 := wordsText_len [115, 99, 114, 105, 112, 116] p.scripts.l; have j2 := wordsText_len [115, 116, 121, 108, 101] p.styles.l; have j3 := wordsText_len [105, 109, 103] p.images.l; simp only [wordsText, List.cons_append, List.nil_append, List.length_append, List.length_cons, List.length_nil, TPolicy.size, PPolicy.lg] at j1 j2 j3 hb ⊢; omega)) ⟨[], ⟨rfl, rfl⟩, hs⟩
   ·
    clear hs
    intro w R hs
    simp only [List.cons_append, List.nil_append] at hs
    exact Gives.rr' Q0 (Yr.buildSlice hs sll34 Q0 Q0 Q0 Q4 Q0) (fun _ _ ⟨b, hv, _, hs1⟩ => ⟨[box b 9 (([S (([115, 116, 121, 108, 101] : Str))]))], ⟨b, hv, rfl⟩, hs1⟩)
   ·
    clear hs
    rintro _ _ ⟨rfl, rfl⟩
    rintro _ _ ⟨b8, rfl, rfl⟩
    intro w R hs
    simp only [List.cons_append, List.nil_append] at hs
    replace hs := (Sat.boxow (l := ([([115, 116, 121, 108, 101] : Str)] : List Str)) (hs.sel (D := [box b8 _ _]) Q2) rfl rfl (by simp [maxLen]) (ownL_mk_flat (by intro x hx; obtain rfl := List.mem_singleton.1 hx; show WfS _; unfold WfS; simp)))
    refine Gives.rr' Q0 (Yr.appendS (s := (⟨[([115, 116, 121, 108, 101] : Str)], some ⟨b8, 0, none⟩, _⟩ : Sl Str)) (F := [b8]) (r := p.styles) hs elt34 Q2 Q0 Q0 (Ph.old h_p.styles hs) (by simp only [TPolicy.size, PPolicy.lg, strsz, lsz] at hb; simp; unfold maxLen; omega) (by simp only [TPolicy.size, PPolicy.lg, strsz, lsz] at hb; simp; omega)) ?_
    rintro _ w1 ⟨s10, F10, rfl, hl10, hs⟩
    exact ⟨[ow s10 F10], ⟨s10, F10, rfl, rfl, by first | exact hl10 | (simp only [List.append_nil] at hl10 ⊢; exact hl10)⟩, hs⟩
   ·
    clear hs
    rintro _ _ ⟨x11, F11, rfl, rfl, hx11⟩
    intro w R hs
    simp only [List.cons_append, List.nil_append] at hs
    refine Gives.c' Q0 (Yc.func Q0 fn113) (c_strings_Join _ _ _ (hs.okow (x := x11) (F := F11) Q1) (by simp only [hx11]; first | (simp only [TPolicy.size, PPolicy.lg, strsz, lsz] at hb; simp; omega) | (simp only [List.cons_append, List.nil_append]; refine Nat.le_trans (wordsText_len _ _) ?_; simp only [TPolicy.size, PPolicy.lg, List.length_cons, List.length_nil] at hb ⊢; omega)) (by simp only [hx11]; first | (simp only [TPolicy.size, PPolicy.lg, strsz, lsz] at hb; simp; omega) | (simp only [List.cons_append, List.nil_append]; refine Nat.le_trans (wordsText_len _ _) ?_; simp only [TPolicy.size, PPolicy.lg, List.length_cons, List.length_nil] at hb ⊢; omega))) ?_
    rintro _ w1 ⟨rfl, hb⟩
    exact ⟨_, rfl, [], ⟨(by first | rfl | (simp only [hx11])), rfl⟩, hs.ext hb⟩
   ·
    clear hs
    rintro _ _ ⟨rfl, rfl⟩
    rintro _ _ ⟨rfl, rfl⟩
    intro w R hs
    simp only [List.cons_append, List.nil_append] at hs
    exact Gives.p' Q0 (Yl.cat Q0 Q0 (by have j1 := wordsText_len [115, 99, 114, 105, 112, 116] p.scripts.l; have j2 := wordsText_len [115, 116, 121, 108, 101] p.styles.l; have j3 := wordsText_len [105, 109, 103] p.images.l; simp only [wordsText, List.cons_append, List.nil_append, List.length_append, List.length_cons, List.length_nil, TPolicy.size, PPolicy.lg] at j1 j2 j3 hb ⊢; omega)) ⟨[], ⟨rfl, rfl⟩, hs⟩
   ·
    clear hs
    rintro _ _ ⟨rfl, rfl⟩
    intro w R hs
    simp only [List.cons_append, List.nil_append] at hs
    exact Gives.p' Q0 (Yl.cat Q0 Q0 (by have j1 := wordsText_len [115, 99, 114, 105, 112, 116] p.scripts.l; have j2 := wordsText_len [115, 116, 121, 108, 101] p.styles.l; have j3 := wordsText_len [105, 109, 103] p.images.l; simp only [wordsText, List.cons_append, List.nil_append, List.length_append, List.length_cons, List.length_nil, TPolicy.size, PPolicy.lg] at j1 j2 j3 hb ⊢; omega)) ⟨[], ⟨rfl, rfl⟩, hs⟩
   ·
    clear hs
    intro w R hs
    simp only [List.cons_append, List.nil_append] at hs
    exact Gives.rr' Q0 (Yr.buildSlice hs sll34 Q0 Q0 Q0 Q4 Q0) (fun _ _ ⟨b, hv, _, hs1⟩ => ⟨[box b 9 (([S (([105, 109, 103] : Str))]))], ⟨b, hv, rfl⟩, hs1⟩)
   ·
    clear hs
    rintro _ _ ⟨rfl, rfl⟩
    rintro _ _ ⟨b15, rfl, rfl⟩
    intro w R hs
    simp only [List.cons_append, List.nil_append] at hs
    replace hs := (Sat.boxow (l := ([([105, 109, 103] : Str)] : List Str)) (hs.sel (D := [box b15 _ _]) Q2) rfl rfl (by simp [maxLen]) (ownL_mk_flat (by intro x hx; obtain rfl := List.mem_singleton.1 hx; show WfS _; unfold WfS; simp)))
    refine Gives.rr' Q0 (Yr.appendS (s := (⟨[([105, 109, 103] : Str)], some ⟨b15, 0, none⟩, _⟩ : Sl Str)) (F := [b15]) (r := p.images) hs elt34 Q2 Q0 Q0 (Ph.old h_p.images hs) (by simp only [TPolicy.size, PPolicy.lg, strsz, lsz] at hb; simp; unfold maxLen; omega) (by simp only [TPolicy.size, PPolicy.lg, strsz, lsz] at hb; simp; omega)) ?_
    rintro _ w1 ⟨s17, F17, rfl, hl17, hs⟩
    exact ⟨[ow s17 F17], ⟨s17, F17, rfl, rfl, by first | exact hl17 | (simp only [List.append_nil] at hl17 ⊢; exact hl17)⟩, hs⟩
   ·
    clear hs
    rintro _ _ ⟨x18, F18, rfl, rfl, hx18⟩
    intro w R hs
    simp only [List.cons_append, List.nil_append] at hs
    refine Gives.c' Q0 (Yc.func Q0 fn113) (c_strings_Join _ _ _ (hs.okow (x := x18) (F := F18) Q1) (by simp only [hx18]; first | (simp only [TPolicy.size, PPolicy.lg, strsz, lsz] at hb; simp; omega) | (simp only [List.cons_append, List.nil_append]; refine Nat.le_trans (wordsText_len _ _) ?_; simp only [TPolicy.size, PPolicy.lg, List.length_cons, List.length_nil] at hb ⊢; omega)) (by simp only [hx18]; first | (simp only [TPolicy.size, PPolicy.lg, strsz, lsz] at hb; simp; omega) | (simp only [List.cons_append, List.nil_append]; refine Nat.le_trans (wordsText_len _ _) ?_; simp only [TPolicy.size, PPolicy.lg, List.length_cons, List.length_nil] at hb ⊢; omega))) ?_
    rintro _ w1 ⟨rfl, hb⟩
    exact ⟨_, rfl, [], ⟨(by first | rfl | (simp only [hx18])), rfl⟩, hs.ext hb⟩
   clear hs
   rintro _ _ ⟨b2, rfl, rfl⟩
   rintro _ _ ⟨x5, F5, rfl, rfl, hx5⟩
   rintro _ _ ⟨rfl, rfl⟩
   rintro _ _ ⟨rfl, rfl⟩
   rintro _ _ ⟨b8, rfl, rfl⟩
   rintro _ _ ⟨x11, F11, rfl, rfl, hx11⟩
   rintro _ _ ⟨rfl, rfl⟩
   rintro _ _ ⟨rfl, rfl⟩
   rintro _ _ ⟨rfl, rfl⟩
   rintro _ _ ⟨b15, rfl, rfl⟩
   rintro _ _ ⟨x18, F18, rfl, rfl, hx18⟩
   rintro _ _ ⟨rfl, rfl⟩
   intro w hs
   simp only [List.cons_append, List.nil_append, cond_true, cond_false] at hs
   refine WA.p (i := 18) Q0 Q6 Q6 Q6 Q0 (hs.only Q2) (fun w hs => Yl.cat Q0 Q0 (by have j1 := wordsText_len [115, 99, 114, 105, 112, 116] p.scripts.l; have j2 := wordsText_len [115, 116, 121, 108, 101] p.styles.l; have j3 := wordsText_len [105, 109, 103] p.images.l; simp only [wordsText, List.cons_append, List.nil_append, List.length_append, List.length_cons, List.length_nil, TPolicy.size, PPolicy.lg] at j1 j2 j3 hb ⊢; omega)) ?_
   refine WA.p (i := 19) Q0 Q6 Q6 Q6 Q0 (hs.only Q2) (fun w hs => Yl.assign Q0) ?_
   refine WA.donen Q6 ?_
   refine WC.seq' ?_
   refine WC.seq ?_
   refine WL.p Q0 (Yl.fieldAddr fa108_4 Q0) ?_
   refine WL.p Q0 (Yl.loadB sca9 Q0 hs Q1 Q0) ?_
   refine WL.p Q0 (Yl.nes Q0 Q0) ?_
   refine WL.next ?_
   refine WC.condS Q0 (fun h3 => ?_) (fun h3 => ?_)
   ·
    replace h3 := not_eq_true h3
    replace h3 := of_decide_eq_false h3
    refine WC.region ?_
    refine Qm ?_
    refine WL.p Q0 (Yl.fieldAddr fa108_4 Q0) ?_
    refine WL.p Q0 (Yl.loadB sca9 Q0 hs Q1 Q0) ?_
    refine WL.p Q0 (Yl.cat Q0 Q0 (by have j1 := wordsText_len [115, 99, 114, 105, 112, 116] p.scripts.l; have j2 := wordsText_len [115, 116, 121, 108, 101] p.styles.l; have j3 := wordsText_len [105, 109, 103] p.images.l; simp only [wordsText, List.cons_append, List.nil_append, List.length_append, List.length_cons, List.length_nil, TPolicy.size, PPolicy.lg] at j1 j2 j3 hb ⊢; omega)) ?_
    refine WL.p Q0 (Yl.cat Q0 Q0 (by have j1 := wordsText_len [115, 99, 114, 105, 112, 116] p.scripts.l; have j2 := wordsText_len [115, 116, 121, 108, 101] p.styles.l; have j3 := wordsText_len [105, 109, 103] p.images.l; simp only [wordsText, List.cons_append, List.nil_append, List.length_append, List.length_cons, List.length_nil, TPolicy.size, PPolicy.lg] at j1 j2 j3 hb ⊢; omega)) ?_
    refine Qa ?_
    refine WL.nil ?_
    refine At.then_ ?_
    refine WC.seq ?_
    refine Qm ?_
    refine Qa ?_
    refine WL.next ?_
    refine WC.ret ?_
    refine fin1' rfl Q0 ?_
    refine RetP.mk hs ?_
    first
     | (simp [fmtPolicy, h1]; done)
     | (simp [fmtPolicy, h2]; done)
     | (simp [fmtPolicy, h1, h2, h3, wordsText]; done)
   ·
    replace h3 := not_eq_false h3
    replace h3 := of_decide_eq_true h3
    refine WC.skipn ?_
    refine WC.seq ?_
    refine Qm ?_
    refine Qa ?_
    refine WL.next ?_
    refine WC.ret ?_
    refine fin1' rfl Q0 ?_
    refine RetP.mk hs ?_
    first
     | (simp [fmtPolicy, h1]; done)
     | (simp [fmtPolicy, h2]; done)
     | (simp [fmtPolicy, h1, h2, h3, wordsText]; done)

theorem c_impl_copyPolicy (p : PPolicy) (w : World) (h_p : Ph.ok w p) (hb : p.lg.size ≤ 1048576) : Calls Tryz.prog 276 [.agg #[Bo p.set, Sl.v p.scripts, Sl.v p.styles, Sl.v p.images, S p.nonce]].toArray w (Ret w (fun v w' => ∃ x : PPolicy, v = .agg (Ph.enc x).toArray ∧ x.lg = p.lg ∧ Fresh w x w')) := by
 refine enterN 19 Tryz.func276 rfl rfl rfl ?_
 have hs := Sat.start w
 refine WC.seq ?_
 refine WL.r Q0 (Yr.box hs Q0 Q0) ?_
 clear hs; rintro _ w ⟨b1, rfl, hb, hs⟩; clear hb
 refine WL.r Q0 (Yr.alloc hs zt108) ?_
 clear hs; rintro _ w ⟨b2, rfl, hb, hs⟩; clear hb
 refine WL.next ?_
 refine WC.seq ?_
 refine WL.r Q0 (Yr.buildSlice hs sll34 Q0 Q0 Q0 Q4 Q0) ?_
 clear hs; rintro _ w ⟨b3, rfl, hb, hs⟩; clear hb
 refine WL.p Q0 (Yl.fieldAddr fa108_1 Q0) ?_
 refine WL.p Q0 (Yl.loadB sca34 Q0 hs Q1 Q0) ?_
 replace hs := (Sat.boxow (l := ([] : List Str)) (hs.sel (D := [box b3 _ _]) Q2) rfl rfl (by simp [maxLen]) (ownL_mk_flat (by simp)))
 refine WL.r Q0 (Yr.appendS (s := (⟨[], some ⟨b3, 0, none⟩, _⟩ : Sl Str)) (F := [b3]) (r := p.scripts) hs elt34 Q2 Q0 Q0 (Ph.old h_p.scripts hs) (by have h1 := h_p.scripts.lt; have h2 := h_p.styles.lt; have h3 := h_p.images.lt; simp; unfold maxLen; omega) (by simp only [TPolicy.size, strsz, lsz] at hb; simp; omega)) ?_
 clear hs; rintro _ w ⟨s4, F4, rfl, hl4, hs⟩
 refine WL.p Q0 (Yl.fieldAddr fa108_1 Q0) ?_
 refine WL.s (Yr.storeB hs Q0 Q0 Q0 Q5 Q3 Q0 (by exact szf34)) ?_
 clear hs; rintro _ w hs
 refine WL.next ?_
 refine WC.seq ?_
 refine WL.r Q0 (Yr.buildSlice hs sll34 Q0 Q0 Q0 Q4 Q0) ?_
 clear hs; rintro _ w ⟨b5, rfl, hb, hs⟩; clear hb
 refine WL.p Q0 (Yl.fieldAddr fa108_2 Q0) ?_
 refine WL.p Q0 (Yl.loadB sca34 Q0 hs Q1 Q0) ?_
 replace hs := (Sat.boxow (l := ([] : List Str)) (hs.sel (D := [box b5 _ _]) Q2) rfl rfl (by simp [maxLen]) (ownL_mk_flat (by simp)))
 refine WL.r Q0 (Yr.appendS (s := (⟨[], some ⟨b5, 0, none⟩, _⟩ : Sl Str)) (F := [b5]) (r := p.styles) hs elt34 Q2 Q0 Q0 (Ph.old h_p.styles hs) (by have h1 := h_p.scripts.lt; have h2 := h_p.styles.lt; have h3 := h_p.images.lt; simp; unfold maxLen; omega) (by simp only [TPolicy.size, strsz, lsz] at hb; simp; omega)) ?_
 clear hs; rintro _ w ⟨s6, F6, rfl, hl6, hs⟩
 refine WL.p Q0 (Yl.fieldAddr fa108_2 Q0) ?_
 refine WL.s (Yr.storeB hs Q0 Q0 Q0 Q5 Q3 Q0 (by exact szf34)) ?_
 clear hs; rintro _ w hs
 refine WL.next ?_
 refine WC.seq ?_
 refine WL.r Q0 (Yr.buildSlice hs sll34 Q0 Q0 Q0 Q4 Q0) ?_
 clear hs; rintro _ w ⟨b7, rfl, hb, hs⟩; clear hb
 refine WL.p Q0 (Yl.fieldAddr fa108_3 Q0) ?_
 refine WL.p Q0 (Yl.loadB sca34 Q0 hs Q1 Q0) ?_
 replace hs := (Sat.boxow (l := ([] : List Str)) (hs.sel (D := [box b7 _ _]) Q2) rfl rfl (by simp [maxLen]) (ownL_mk_flat (by simp)))
 refine WL.r Q0 (Yr.appendS (s := (⟨[], some ⟨b7, 0, none⟩, _⟩ : Sl Str)) (F := [b7]) (r := p.images) hs elt34 Q2 Q0 Q0 (Ph.old h_p.images hs) (by have h1 := h_p.scripts.lt; have h2 := h_p.styles.lt; have h3 := h_p.images.lt; simp; unfold maxLen; omega) (by simp only [TPolicy.size, strsz, lsz] at hb; simp; omega)) ?_
 clear hs; rintro _ w ⟨s8, F8, rfl, hl8, hs⟩
 refine WL.p Q0 (Yl.fieldAddr fa108_3 Q0) ?_
 refine WL.s (Yr.storeB hs Q0 Q0 Q0 Q5 Q3 Q0 (by exact szf34)) ?_
 clear hs; rintro _ w hs
 refine WL.next ?_
 refine WC.seq ?_
 refine WL.p Q0 (Yl.loadAB agg108 Q0 hs Q1 Q0 Q0) ?_
 refine WL.s (Yr.storeB hs Q0 Q0 Q0 Q5 Q3 Q0 (by exact szf108)) ?_
 clear hs; rintro _ w hs
 refine WL.next ?_
 refine WC.ret ?_
 refine fin1c rfl agg108 Q0 hs Q1 Q0 ?_
 refine Ret.mk hs ?_
 refine ⟨⟨_, s4, s6, s8, _⟩, rfl, ?_, ?_⟩
 · simp_all
 · exact (PPolicy.join _ (hs.only (D := [ow s4 F4, ow s6 F6, ow s8 F8]) Q2) (by first | exact Ph.old h_p.set hs | trivial | assumption | exact Nat.zero_le _) (by first | exact Ph.old h_p.nonce hs | trivial | assumption | exact Nat.zero_le _)).fresh List.mem_cons_self

theorem c_impl_ParsePolicy (s : Str) (w : World)  (hb : s.length ≤ 1048576) (hm_ : ∃ m, w.cell? ⟨0, 0, none⟩ = some (.int .i64 m)) : Calls Tryz.prog 212 [S s].toArray w (Ret w (fun v w' => ∃ x : PPolicy, v = .tuple #[.agg (Ph.enc x).toArray, Bo (policyIs s)] ∧ x.lg = policyOf s ∧ Fresh w x w')) := by
 refine enterN 52 Tryz.func212 rfl rfl rfl ?_
 have hs := Sat.start w
 refine WC.seq ?_
 refine WL.r Q0 (Yr.alloc hs zt108) ?_
 clear hs; rintro _ w ⟨b1, rfl, hb, hs⟩; clear hb
 refine Qa ?_
 refine WL.next ?_
 refine WC.seq' ?_
 refine WC.seq ?_
 refine Qm ?_
 refine WL.p Q0 (Yl.eqs Q0 Q0) ?_
 refine WL.next ?_
 refine WC.condS Q0 (fun h1 => ?_) (fun h1 => ?_)
 ·
  replace h1 := of_decide_eq_true h1
  refine WC.seq ?_
  refine WL.p Q0 (Yl.build bt108 Q0 Q4) ?_
  refine WL.s (Yr.storeB hs Q0 Q0 Q0 Q5 Q3 Q0 (by exact szf108)) ?_
  clear hs; rintro _ w hs
  refine Qa ?_
  refine WL.next ?_
  refine WC.ret ?_
  refine At.thenret ?_
  refine fin2c rfl agg108 Q0 Q0 hs Q1 Q0 ?_
  refine Ret.mk hs ?_
  have hb9 : policyIs s = true := policyIs_nil h1
  exact ⟨⟨false, ⟨[], none, 0⟩, ⟨[], none, 0⟩, ⟨[], none, 0⟩, []⟩, by rw [hb9]; rfl, (policyOf_no (.inl h1)).symm, ⟨⟨[], PPolicy.zown _, .nil, fun b h => by cases h⟩⟩⟩
 ·
  replace h1 := of_decide_eq_false h1
  refine WC.skipn ?_
  refine WC.seq ?_
  refine Qm ?_
  refine WL.call hs Q0 (Yc.func Q0 fn103) (c_strings_Split _ _ _ Q10 Q0 (by first | assumption | exact Sat.cellm hs (by assumption))) ?_
  have hs0 := hs; clear hs; intro v w hb hR hs; clear hs
  obtain ⟨x2, rfl, hx2, hf2⟩ := hR
  obtain ⟨F2, hs⟩ := hf2.sat hs0 hb; clear hs0 hf2
  have hle2 := Sl.Ok.le (hs.okow (x := x2) (F := F2) Q1)
  refine Qa ?_
  refine WL.next ?_
  refine WC.seq' ?_
  refine WC.seq ?_
  refine Qm ?_
  refine WL.p Q0 (Yl.len_sl slu34 Q0) ?_
  refine WL.p Q0 (Yl.lss Q0 Q0) ?_
  refine WL.next ?_
  refine WC.condS Q0 (fun h2 => ?_) (fun h2 => ?_)
  ·
   replace h2 := of_decide_eq_true h2
   refine WC.seq ?_
   refine WL.p Q0 (Yl.build bt108 Q0 Q4) ?_
   refine WL.s (Yr.storeB hs Q0 Q0 Q0 Q5 Q3 Q0 (by exact szf108)) ?_
   clear hs; rintro _ w hs
   refine Qa ?_
   refine WL.next ?_
   refine WC.ret ?_
   refine At.thenret ?_
   refine fin2c rfl agg108 Q0 Q0 hs Q1 Q0 ?_
   refine Ret.mk hs ?_
   have hb9 : policyIs s = false := policyIs_short h1 (by rw [← show x2.l = splitC 59 s from hx2]; omega)
   exact ⟨⟨false, ⟨[], none, 0⟩, ⟨[], none, 0⟩, ⟨[], none, 0⟩, []⟩, by rw [hb9]; rfl, (policyOf_no (.inr hb9)).symm, ⟨⟨[], PPolicy.zown _, .nil, fun b h => by cases h⟩⟩⟩
  ·
   replace h2 := of_decide_eq_false h2
   have h39 := getD_len (s := s) (i := 3)
   rw [← show x2.l = splitC 59 s from hx2] at h39
   refine WC.skipn ?_
   refine WC.seq ?_
   refine WL.p Q0 (Yl.buildArr arr293 szf34 zt293) ?_
   refine WL.r Q0 (Yr.alloc hs zt293) ?_
   clear hs; rintro _ w ⟨b3, rfl, hb, hs⟩; clear hb
   refine WL.s (Yr.storeB hs Q0 Q0 Q0 Q5 Q3 Q0 (by exact szf293)) ?_
   clear hs; rintro _ w hs
   refine WL.next ?_
   refine WC.seq' ?_
   refine WC.seq ?_
   refine Qm ?_
   refine WL.next ?_
   refine WC.block ?_
   refine WC.loopN 4 ?_
   refine WR.succ ?_
   refine WC.seq ?_
   refine WL.p Q0 (Yl.lss Q0 Q0) ?_
   refine WL.next ?_
   refine WC.seq' ?_
   refine WC.condT Q0 ?_
   refine WC.skipn ?_
   refine WC.seq' ?_
   refine WC.block ?_
   refine WC.seq ?_
   refine Qm ?_
   refine Qa ?_
   refine WL.next ?_
   refine WC.region ?_
   refine Qm ?_
   refine Qm ?_
   refine Qm ?_
   refine WL.p Q0 (Yl.indexAddr (k := 0) slt34 Q0 Q0 (hs.okow (x := x2) (F := F2) Q1) Q0 ((getD_some (i := 0) (z := ([] : Str)) Q7))) ?_
   refine WL.p Q0 (Yl.loadC0 sca9 Q0 (Sl.Ok.at_ (hs.okow (x := x2) (F := F2) Q1) ((getD_some (i := 0) (z := ([] : Str)) Q7))).2 Q0) ?_
   refine WL.call hs Q0 (Yc.func Q0 fn103) (c_strings_Split _ _ _ (by first | (have := getD_len (s := s) (i := 0); rw [← show x2.l = splitC 59 s from hx2] at this; omega) | (have := getD_len (s := s) (i := 1); rw [← show x2.l = splitC 59 s from hx2] at this; omega) | (have := getD_len (s := s) (i := 2); rw [← show x2.l = splitC 59 s from hx2] at this; omega) | (have := getD_len (s := s) (i := 3); rw [← show x2.l = splitC 59 s from hx2] at this; omega)) Q0 (by first | assumption | exact Sat.cellm hs (by assumption))) ?_
   have hs0 := hs; clear hs; intro v w hb hR hs; clear hs
   obtain ⟨x4, rfl, hx4, hf4⟩ := hR
   obtain ⟨F4, hs⟩ := hf4.sat hs0 hb; clear hs0 hf4
   have hle4 := Sl.Ok.le (hs.okow (x := x4) (F := F4) Q1)
   refine WL.p Q0 (Yl.slice_sl (s := x4) (l := 1) (h := x4.l.length) slt34 Q0 hle4 (by exact ⟨_, by rfl⟩) (by exact rfl) (by rw [hx4]; exact List.length_pos_iff.2 (splitC_ne _ _)) (by exact Nat.le_refl _)) ?_
   refine WL.p Q0 (Yl.indexArr (i := 0) arr293 szf34 Q0 Q0 Q0 (by decide)) ?_
   refine WL.s (Yr.storeB hs Q0 Q0 Q0 Q5 Q3 Q0 (by exact szf34)) ?_
   clear hs; rintro _ w hs
   refine WL.nil ?_
   refine At.blocknormal ?_
   refine At.then_ ?_
   refine WC.region ?_
   refine WL.p Q0 (Yl.add Q0 Q0 Q7) ?_
   refine Qm ?_
   refine WL.nil ?_
   refine At.roundN ?_
   refine WR.succ ?_
   refine WC.seq ?_
   refine WL.p Q0 (Yl.lss Q0 Q0) ?_
   refine WL.next ?_
   refine WC.seq' ?_
   refine WC.condT Q0 ?_
   refine WC.skipn ?_
   refine WC.seq' ?_
   refine WC.block ?_
   refine WC.seq ?_
   refine Qm ?_
   refine Qa ?_
   refine WL.next ?_
   refine WC.region ?_
   refine Qm ?_
   refine Qm ?_
   refine Qm ?_
   refine WL.p Q0 (Yl.indexAddr (k := 1) slt34 Q0 Q0 (hs.okow (x := x2) (F := F2) Q1) Q0 ((getD_some (i := 1) (z := ([] : Str)) Q7))) ?_
   refine WL.p Q0 (Yl.loadC0 sca9 Q0 (Sl.Ok.at_ (hs.okow (x := x2) (F := F2) Q1) ((getD_some (i := 1) (z := ([] : Str)) Q7))).2 Q0) ?_
   refine WL.call hs Q0 (Yc.func Q0 fn103) (c_strings_Split _ _ _ (by first | (have := getD_len (s := s) (i := 0); rw [← show x2.l = splitC 59 s from hx2] at this; omega) | (have := getD_len (s := s) (i := 1); rw [← show x2.l = splitC 59 s from hx2] at this; omega) | (have := getD_len (s := s) (i := 2); rw [← show x2.l = splitC 59 s from hx2] at this; omega) | (have := getD_len (s := s) (i := 3); rw [← show x2.l = splitC 59 s from hx2] at this; omega)) Q0 (by first | assumption | exact Sat.cellm hs (by assumption))) ?_
   have hs0 := hs; clear hs; intro v w hb hR hs; clear hs
   obtain ⟨x5, rfl, hx5, hf5⟩ := hR
   obtain ⟨F5, hs⟩ := hf5.sat hs0 hb; clear hs0 hf5
   have hle5 := Sl.Ok.le (hs.okow (x := x5) (F := F5) Q1)
   refine WL.p Q0 (Yl.slice_sl (s := x5) (l := 1) (h := x5.l.length) slt34 Q0 hle5 (by exact ⟨_, by rfl⟩) (by exact rfl) (by rw [hx5]; exact List.length_pos_iff.2 (splitC_ne _ _)) (by exact Nat.le_refl _)) ?_
   refine WL.p Q0 (Yl.indexArr (i := 1) arr293 szf34 Q0 Q0 Q0 (by decide)) ?_
   refine WL.s (Yr.storeB hs Q0 Q0 Q0 Q5 Q3 Q0 (by exact szf34)) ?_
   clear hs; rintro _ w hs
   refine WL.nil ?_
   refine At.blocknormal ?_
   refine At.then_ ?_
   refine WC.region ?_
   refine WL.p Q0 (Yl.add Q0 Q0 Q7) ?_
   refine Qm ?_
   refine WL.nil ?_
   refine At.roundN ?_
   refine WR.succ ?_
   refine WC.seq ?_
   refine WL.p Q0 (Yl.lss Q0 Q0) ?_
   refine WL.next ?_
   refine WC.seq' ?_
   refine WC.condT Q0 ?_
   refine WC.skipn ?_
   refine WC.seq' ?_
   refine WC.block ?_
   refine WC.seq ?_
   refine Qm ?_
   refine Qa ?_
   refine WL.next ?_
   refine WC.region ?_
   refine Qm ?_
   refine Qm ?_
   refine Qm ?_
   refine WL.p Q0 (Yl.indexAddr (k := 2) slt34 Q0 Q0 (hs.okow (x := x2) (F := F2) Q1) Q0 ((getD_some (i := 2) (z := ([] : Str)) Q7))) ?_
   refine WL.p Q0 (Yl.loadC0 sca9 Q0 (Sl.Ok.at_ (hs.okow (x := x2) (F := F2) Q1) ((getD_some (i := 2) (z := ([] : Str)) Q7))).2 Q0) ?_
   refine WL.call hs Q0 (Yc.func Q0 fn103) (c_strings_Split _ _ _ (by first | (have := getD_len (s := s) (i := 0); rw [← show x2.l = splitC 59 s from hx2] at this; omega) | (have := getD_len (s := s) (i := 1); rw [← show x2.l = splitC 59 s from hx2] at this; omega) | (have := getD_len (s := s) (i := 2); rw [← show x2.l = splitC 59 s from hx2] at this; omega) | (have := getD_len (s := s) (i := 3); rw [← show x2.l = splitC 59 s from hx2] at this; omega)) Q0 (by first | assumption | exact Sat.cellm hs (by assumption))) ?_
   have hs0 := hs; clear hs; intro v w hb hR hs; clear hs
   obtain ⟨x6, rfl, hx6, hf6⟩ := hR
   obtain ⟨F6, hs⟩ := hf6.sat hs0 hb; clear hs0 hf6
   have hle6 := Sl.Ok.le (hs.okow (x := x6) (F := F6) Q1)
   refine WL.p Q0 (Yl.slice_sl (s := x6) (l := 1) (h := x6.l.length) slt34 Q0 hle6 (by exact ⟨_, by rfl⟩) (by exact rfl) (by rw [hx6]; exact List.length_pos_iff.2 (splitC_ne _ _)) (by exact Nat.le_refl _)) ?_
   refine WL.p Q0 (Yl.indexArr (i := 2) arr293 szf34 Q0 Q0 Q0 (by decide)) ?_
   refine WL.s (Yr.storeB hs Q0 Q0 Q0 Q5 Q3 Q0 (by exact szf34)) ?_
   clear hs; rintro _ w hs
   refine WL.nil ?_
   refine At.blocknormal ?_
   refine At.then_ ?_
   refine WC.region ?_
   refine WL.p Q0 (Yl.add Q0 Q0 Q7) ?_
   refine Qm ?_
   refine WL.nil ?_
   refine At.roundN ?_
   refine WR.succ ?_
   refine WC.seq ?_
   refine WL.p Q0 (Yl.lss Q0 Q0) ?_
   refine WL.next ?_
   refine WC.seq' ?_
   refine WC.condF Q0 ?_
   refine WC.exit ?_
   refine At.thenexit ?_
   refine At.thenexit ?_
   refine At.blockexit ?_
   refine At.then_ ?_
   refine WC.seq ?_
   refine WL.p Q0 (Yl.indexArr (i := 0) arr293 szf34 Q0 Q0 Q0 (by decide)) ?_
   refine WL.p Q0 (Yl.loadB sca34 Q0 hs Q1 Q0) ?_
   refine WL.p Q0 (Yl.indexArr (i := 1) arr293 szf34 Q0 Q0 Q0 (by decide)) ?_
   refine WL.p Q0 (Yl.loadB sca34 Q0 hs Q1 Q0) ?_
   refine WL.p Q0 (Yl.indexArr (i := 2) arr293 szf34 Q0 Q0 Q0 (by decide)) ?_
   refine WL.p Q0 (Yl.loadB sca34 Q0 hs Q1 Q0) ?_
   refine WL.p Q0 (Yl.build bt108 Q0 Q4) ?_
   refine WL.r Q0 (Yr.alloc hs zt108) ?_
   clear hs; rintro _ w ⟨b7, rfl, hb, hs⟩; clear hb
   refine WL.s (Yr.storeB hs Q0 Q0 Q0 Q5 Q3 Q0 (by exact szf108)) ?_
   clear hs; rintro _ w hs
   refine WL.next ?_
   refine WC.seq' ?_
   refine WC.seq ?_
   refine Qm ?_
   refine WL.p Q0 (Yl.len_sl slu34 Q0) ?_
   refine WL.p Q0 (Yl.gtr Q0 Q0) ?_
   refine WL.next ?_
   refine WC.condS Q0 (fun h3 => ?_) (fun h3 => ?_)
   ·
    replace h3 := of_decide_eq_true h3
    refine WC.region ?_
    refine Qm ?_
    refine WL.p Q0 (Yl.indexAddr (k := 3) slt34 Q0 Q0 (hs.okow (x := x2) (F := F2) Q1) Q0 ((getD_some (i := 3) (z := ([] : Str)) Q7))) ?_
    refine WL.p Q0 (Yl.loadC0 sca9 Q0 (Sl.Ok.at_ (hs.okow (x := x2) (F := F2) Q1) ((getD_some (i := 3) (z := ([] : Str)) Q7))).2 Q0) ?_
    refine WL.callp hs Q0 (Yc.func Q0 fn274) (c_strings_TrimPrefix _ _ _) ?_
    clear hs; intro w hs
    refine WL.p Q0 (Yl.fieldAddr fa108_4 Q0) ?_
    refine WL.s (Yr.storeB hs Q0 Q0 Q0 Q5 Q3 Q0 (by exact szf9)) ?_
    clear hs; rintro _ w hs
    refine WL.nil ?_
    refine At.then_ ?_
    refine WC.seq' ?_
    refine WC.seq ?_
    refine WL.p Q0 (Yl.loadAB agg108 Q0 hs Q1 Q0 Q0) ?_
    have hpl9 : PPolicy.lg (⟨true, (x4.cut 1 x4.l.length), (x5.cut 1 x5.l.length), (x6.cut 1 x6.l.length), (nonceI (x2.l.getD 3 []))⟩ : PPolicy) = polI s := by
     have e2 : x2.l = splitC 59 s := hx2
     have g0 : x4.l = splitC 32 ((splitC 59 s).getD 0 []) := by rw [← e2]; exact hx4
     have g1 : x5.l = splitC 32 ((splitC 59 s).getD 1 []) := by rw [← e2]; exact hx5
     have g2 : x6.l = splitC 32 ((splitC 59 s).getD 2 []) := by rw [← e2]; exact hx6
     have c0 : (x4.cut 1 x4.l.length).l = (splitC 32 ((splitC 59 s).getD 0 [])).tail := by rw [Sl.cut_full, g0, List.drop_one]
     have c1 : (x5.cut 1 x5.l.length).l = (splitC 32 ((splitC 59 s).getD 1 [])).tail := by rw [Sl.cut_full, g1, List.drop_one]
     have c2 : (x6.cut 1 x6.l.length).l = (splitC 32 ((splitC 59 s).getD 2 [])).tail := by rw [Sl.cut_full, g2, List.drop_one]
     simp only [PPolicy.lg, polI, polOf, c0, c1, c2, TPolicy.mk.injEq, true_and]
     rw [← e2]
     first
      | (rw [if_neg (show ¬ 3 < x2.l.length from fun h => by omega)]; done)
      | (rw [if_pos (show 3 < x2.l.length from Int.ofNat_lt.1 Q7)]; done)
      | (rw [if_pos (show 3 < x2.l.length from Int.ofNat_lt.1 Q7)]
         simp only [nonceS, nonceI]
         first
           | (rfl; done)
           | (rw [if_neg Q7]; done)
           | (rw [if_pos Q7, List.take_of_length_le (by simp)]; done)
           | (rw [if_pos Q7]; done))
    refine WL.callp hs Q0 (Yc.func Q0 fn275) (c_impl_FormatPolicy (⟨true, (x4.cut 1 x4.l.length), (x5.cut 1 x5.l.length), (x6.cut 1 x6.l.length), (nonceI (x2.l.getD 3 []))⟩ : PPolicy) _ ⟨trivial, (Sl.Ok.cut (hs.okow (x := x4) (F := F4) Q1) (by rw [hx4]; exact List.length_pos_iff.2 (splitC_ne _ _)) (by exact Nat.le_refl _)), (Sl.Ok.cut (hs.okow (x := x5) (F := F5) Q1) (by rw [hx5]; exact List.length_pos_iff.2 (splitC_ne _ _)) (by exact Nat.le_refl _)), (Sl.Ok.cut (hs.okow (x := x6) (F := F6) Q1) (by rw [hx6]; exact List.length_pos_iff.2 (splitC_ne _ _)) (by exact Nat.le_refl _)), (show WfS _ from Nat.le_trans (nonceI_len _) Q7)⟩ (by rw [hpl9]; have := polI_size (s := s) (by rw [← show x2.l = splitC 59 s from hx2]; omega); omega)) ?_
    clear hs; intro w hs
    refine Qm ?_
    refine WL.p Q0 (Yl.nes Q0 Q0) ?_
    refine WL.next ?_
    refine WC.condS Q0 (fun h4 => ?_) (fun h4 => ?_)
    ·
     replace h4 := not_eq_true h4
     replace h4 := of_decide_eq_false h4
     refine WC.seq ?_
     refine WL.p Q0 (Yl.build bt108 Q0 Q4) ?_
     refine WL.s (Yr.storeB hs Q0 Q0 Q0 Q5 Q3 Q0 (by exact szf108)) ?_
     clear hs; rintro _ w hs
     refine Qa ?_
     refine WL.next ?_
     refine WC.ret ?_
     refine At.thenret ?_
     refine fin2c rfl agg108 Q0 Q0 hs Q1 Q0 ?_
     refine Ret.mk hs ?_
     rw [hpl9] at h4
     have hb9 : policyIs s = false := policyIs_badI h1 h4
     exact ⟨⟨false, ⟨[], none, 0⟩, ⟨[], none, 0⟩, ⟨[], none, 0⟩, []⟩, by rw [hb9]; rfl, (policyOf_no (.inr hb9)).symm, ⟨⟨[], PPolicy.zown _, .nil, fun b h => by cases h⟩⟩⟩
    ·
     replace h4 := not_eq_false h4
     replace h4 := of_decide_eq_true h4
     refine WC.skipn ?_
     refine WC.seq ?_
     refine WL.p Q0 (Yl.loadAB agg108 Q0 hs Q1 Q0 Q0) ?_
     refine WL.call hs Q0 (Yc.func Q0 fn276) (c_impl_copyPolicy (⟨true, (x4.cut 1 x4.l.length), (x5.cut 1 x5.l.length), (x6.cut 1 x6.l.length), (nonceI (x2.l.getD 3 []))⟩ : PPolicy) _ ⟨trivial, (Sl.Ok.cut (hs.okow (x := x4) (F := F4) Q1) (by rw [hx4]; exact List.length_pos_iff.2 (splitC_ne _ _)) (by exact Nat.le_refl _)), (Sl.Ok.cut (hs.okow (x := x5) (F := F5) Q1) (by rw [hx5]; exact List.length_pos_iff.2 (splitC_ne _ _)) (by exact Nat.le_refl _)), (Sl.Ok.cut (hs.okow (x := x6) (F := F6) Q1) (by rw [hx6]; exact List.length_pos_iff.2 (splitC_ne _ _)) (by exact Nat.le_refl _)), (show WfS _ from Nat.le_trans (nonceI_len _) Q7)⟩ (by rw [hpl9]; have := polI_size (s := s) (by rw [← show x2.l = splitC 59 s from hx2]; omega); omega)) ?_
     have hs0 := hs; clear hs; intro v w hb hR hs; clear hs
     obtain ⟨x8, rfl, hx8, hf8⟩ := hR
     obtain ⟨F8, hs⟩ := hf8.sat hs0 hb; clear hs0 hf8
     refine WL.s (Yr.storeB hs Q0 Q0 Q0 Q5 Q3 Q0 (by exact szf108)) ?_
     clear hs; rintro _ w hs
     refine Qa ?_
     refine WL.next ?_
     refine WC.ret ?_
     refine fin2c rfl agg108 Q0 Q0 hs Q1 Q0 ?_
     refine Ret.mk hs ?_
     rw [hpl9] at h4
     have hq9 : x2.l = splitC 59 s := hx2
     have h49 : 3 ≤ (splitC 59 s).length := by rw [← hq9]; omega
     have hb9 : policyIs s = true := policyIs_goodI h1 h4 h49
     exact ⟨x8, by rw [hb9]; try rfl, hx8.trans (hpl9.trans (policyOf_goodI h1 hb9 h4).symm), hs.fresh Q1⟩
   ·
    replace h3 := of_decide_eq_false h3
    refine WC.skipn ?_
    refine WC.seq' ?_
    refine WC.seq ?_
    refine WL.p Q0 (Yl.loadAB agg108 Q0 hs Q1 Q0 Q0) ?_
    have hpl9 : PPolicy.lg (⟨true, (x4.cut 1 x4.l.length), (x5.cut 1 x5.l.length), (x6.cut 1 x6.l.length), ([] : Str)⟩ : PPolicy) = polI s := by
     have e2 : x2.l = splitC 59 s := hx2
     have g0 : x4.l = splitC 32 ((splitC 59 s).getD 0 []) := by rw [← e2]; exact hx4
     have g1 : x5.l = splitC 32 ((splitC 59 s).getD 1 []) := by rw [← e2]; exact hx5
     have g2 : x6.l = splitC 32 ((splitC 59 s).getD 2 []) := by rw [← e2]; exact hx6
     have c0 : (x4.cut 1 x4.l.length).l = (splitC 32 ((splitC 59 s).getD 0 [])).tail := by rw [Sl.cut_full, g0, List.drop_one]
     have c1 : (x5.cut 1 x5.l.length).l = (splitC 32 ((splitC 59 s).getD 1 [])).tail := by rw [Sl.cut_full, g1, List.drop_one]
     have c2 : (x6.cut 1 x6.l.length).l = (splitC 32 ((splitC 59 s).getD 2 [])).tail := by rw [Sl.cut_full, g2, List.drop_one]
     simp only [PPolicy.lg, polI, polOf, c0, c1, c2, TPolicy.mk.injEq, true_and]
     rw [← e2]
     first
      | (rw [if_neg (show ¬ 3 < x2.l.length from fun h => by omega)]; done)
      | (rw [if_pos (show 3 < x2.l.length from Int.ofNat_lt.1 Q7)]; done)
      | (rw [if_pos (show 3 < x2.l.length from Int.ofNat_lt.1 Q7)]
         simp only [nonceS, nonceI]
         first
           | (rfl; done)
           | (rw [if_neg Q7]; done)
           | (rw [if_pos Q7, List.take_of_length_le (by simp)]; done)
           | (rw [if_pos Q7]; done))
    refine WL.callp hs Q0 (Yc.func Q0 fn275) (c_impl_FormatPolicy (⟨true, (x4.cut 1 x4.l.length), (x5.cut 1 x5.l.length), (x6.cut 1 x6.l.length), ([] : Str)⟩ : PPolicy) _ ⟨trivial, (Sl.Ok.cut (hs.okow (x := x4) (F := F4) Q1) (by rw [hx4]; exact List.length_pos_iff.2 (splitC_ne _ _)) (by exact Nat.le_refl _)), (Sl.Ok.cut (hs.okow (x := x5) (F := F5) Q1) (by rw [hx5]; exact List.length_pos_iff.2 (splitC_ne _ _)) (by exact Nat.le_refl _)), (Sl.Ok.cut (hs.okow (x := x6) (F := F6) Q1) (by rw [hx6]; exact List.length_pos_iff.2 (splitC_ne _ _)) (by exact Nat.le_refl _)), (show WfS [] from Nat.zero_le _)⟩ (by rw [hpl9]; have := polI_size (s := s) (by rw [← show x2.l = splitC 59 s from hx2]; omega); omega)) ?_
    clear hs; intro w hs
    refine Qm ?_
    refine WL.p Q0 (Yl.nes Q0 Q0) ?_
    refine WL.next ?_
    refine WC.condS Q0 (fun h4 => ?_) (fun h4 => ?_)
    ·
     replace h4 := not_eq_true h4
     replace h4 := of_decide_eq_false h4
     refine WC.seq ?_
     refine WL.p Q0 (Yl.build bt108 Q0 Q4) ?_
     refine WL.s (Yr.storeB hs Q0 Q0 Q0 Q5 Q3 Q0 (by exact szf108)) ?_
     clear hs; rintro _ w hs
     refine Qa ?_
     refine WL.next ?_
     refine WC.ret ?_
     refine At.thenret ?_
     refine fin2c rfl agg108 Q0 Q0 hs Q1 Q0 ?_
     refine Ret.mk hs ?_
     rw [hpl9] at h4
     have hb9 : policyIs s = false := policyIs_badI h1 h4
     exact ⟨⟨false, ⟨[], none, 0⟩, ⟨[], none, 0⟩, ⟨[], none, 0⟩, []⟩, by rw [hb9]; rfl, (policyOf_no (.inr hb9)).symm, ⟨⟨[], PPolicy.zown _, .nil, fun b h => by cases h⟩⟩⟩
    ·
     replace h4 := not_eq_false h4
     replace h4 := of_decide_eq_true h4
     refine WC.skipn ?_
     refine WC.seq ?_
     refine WL.p Q0 (Yl.loadAB agg108 Q0 hs Q1 Q0 Q0) ?_
     refine WL.call hs Q0 (Yc.func Q0 fn276) (c_impl_copyPolicy (⟨true, (x4.cut 1 x4.l.length), (x5.cut 1 x5.l.length), (x6.cut 1 x6.l.length), ([] : Str)⟩ : PPolicy) _ ⟨trivial, (Sl.Ok.cut (hs.okow (x := x4) (F := F4) Q1) (by rw [hx4]; exact List.length_pos_iff.2 (splitC_ne _ _)) (by exact Nat.le_refl _)), (Sl.Ok.cut (hs.okow (x := x5) (F := F5) Q1) (by rw [hx5]; exact List.length_pos_iff.2 (splitC_ne _ _)) (by exact Nat.le_refl _)), (Sl.Ok.cut (hs.okow (x := x6) (F := F6) Q1) (by rw [hx6]; exact List.length_pos_iff.2 (splitC_ne _ _)) (by exact Nat.le_refl _)), (show WfS [] from Nat.zero_le _)⟩ (by rw [hpl9]; have := polI_size (s := s) (by rw [← show x2.l = splitC 59 s from hx2]; omega); omega)) ?_
     have hs0 := hs; clear hs; intro v w hb hR hs; clear hs
     obtain ⟨x9, rfl, hx9, hf9⟩ := hR
     obtain ⟨F9, hs⟩ := hf9.sat hs0 hb; clear hs0 hf9
     refine WL.s (Yr.storeB hs Q0 Q0 Q0 Q5 Q3 Q0 (by exact szf108)) ?_
     clear hs; rintro _ w hs
     refine Qa ?_
     refine WL.next ?_
     refine WC.ret ?_
     refine fin2c rfl agg108 Q0 Q0 hs Q1 Q0 ?_
     refine Ret.mk hs ?_
     rw [hpl9] at h4
     have hq9 : x2.l = splitC 59 s := hx2
     have h49 : 3 ≤ (splitC 59 s).length := by rw [← hq9]; omega
     have hb9 : policyIs s = true := policyIs_goodI h1 h4 h49
     exact ⟨x9, by rw [hb9]; try rfl, hx9.trans (hpl9.trans (policyOf_goodI h1 hb9 h4).symm), hs.fresh Q1⟩

theorem c_impl_IsResponse (x : TResponse) (w : World) (h_x : Ph.ok w x) (hb : x.policy.length ≤ 1048576) (hm_ : ∃ m, w.cell? ⟨0, 0, none⟩ = some (.int .i64 m)) : Calls Tryz.prog 130 [.agg #[I x.status, I x.kind, S x.body, I x.age, Bo x.shares, S x.policy]].toArray w (RetP w (Bo x.isv)) := by
 refine enterN 33 Tryz.func130 rfl rfl rfl ?_
 have hs := Sat.start w
 refine WC.seq ?_
 refine WL.r Q0 (Yr.box hs Q0 Q0) ?_
 clear hs; rintro _ w ⟨b1, rfl, hb, hs⟩; clear hb
 refine Qa ?_
 refine WL.next ?_
 refine WC.seq ?_
 refine WL.p Q0 (Yl.fieldAddr fa72_5 Q0) ?_
 refine WL.p Q0 (Yl.loadB sca9 Q0 hs Q1 Q0) ?_
 refine WL.call hs Q0 (Yc.func Q0 fn212) (c_impl_ParsePolicy _ _ Q10 (by first | assumption | exact Sat.cellm hs (by assumption))) ?_
 have hs0 := hs; clear hs; intro v w hb hR hs; clear hs
 obtain ⟨x2, rfl, hx2, hf2⟩ := hR
 obtain ⟨F2, hs⟩ := hf2.sat hs0 hb; clear hs0 hf2
 refine Qm ?_
 refine WL.p Q0 (Yl.extract Q0 Q0) ?_
 refine WL.p Q0 (Yl.extract Q0 Q0) ?_
 refine WL.r Q0 (Yr.alloc hs zt108) ?_
 clear hs; rintro _ w ⟨b3, rfl, hb, hs⟩; clear hb
 refine WL.s (Yr.storeB hs Q0 Q0 Q0 Q5 Q3 Q0 (by exact szf108)) ?_
 clear hs; rintro _ w hs
 refine Qa ?_
 refine WL.next ?_
 refine WC.seq ?_
 refine Qm ?_
 refine Qm ?_
 refine WL.split (d := 12) Q0 (fun h1 => ?_) (fun h1 => ?_)
 ·
  refine WL.run (d := 12) Q0 Q0 ?_
  refine WL.p Q0 (Yl.fieldAddr fa72_0 Q0) ?_
  refine WL.run (d := 12) Q0 Q0 ?_
  refine WL.p Q0 (Yl.loadB sca3 Q0 hs Q1 Q0) ?_
  refine WL.run (d := 12) Q0 Q0 ?_
  refine WL.callp hs Q0 (Yc.func Q0 fn90) (c_impl_InRange _ _ _ _) ?_
  clear hs; intro w hs
  refine WL.p Q0 (Yl.pickT Q0 Q0) ?_
  refine Qm ?_
  refine WL.split (d := 17) Q0 (fun h2 => ?_) (fun h2 => ?_)
  ·
   replace h2 := inR_true.1 h2
   refine WL.run (d := 17) Q0 Q0 ?_
   refine WL.p Q0 (Yl.fieldAddr fa72_1 Q0) ?_
   refine WL.run (d := 17) Q0 Q0 ?_
   refine WL.p Q0 (Yl.loadB sca3 Q0 hs Q1 Q0) ?_
   refine WL.run (d := 17) Q0 Q0 ?_
   refine WL.callp hs Q0 (Yc.func Q0 fn90) (c_impl_InRange _ _ _ _) ?_
   clear hs; intro w hs
   refine WL.p Q0 (Yl.pickT Q0 Q0) ?_
   refine Qm ?_
   refine WL.split (d := 22) Q0 (fun h3 => ?_) (fun h3 => ?_)
   ·
    replace h3 := inR_true.1 h3
    refine WL.run (d := 22) Q0 Q0 ?_
    refine WL.p Q0 (Yl.fieldAddr fa72_2 Q0) ?_
    refine WL.run (d := 22) Q0 Q0 ?_
    refine WL.p Q0 (Yl.loadB sca9 Q0 hs Q1 Q0) ?_
    refine WL.run (d := 22) Q0 Q0 ?_
    refine WL.p Q0 (Yl.len_str str9 Q0) ?_
    refine WL.run (d := 22) Q0 Q0 ?_
    refine WL.p Q0 (Yl.leq Q0 Q0) ?_
    refine WL.p Q0 (Yl.pickT Q0 Q0) ?_
    refine Qm ?_
    refine WL.split (d := 28) Q0 (fun h4 => ?_) (fun h4 => ?_)
    ·
     replace h4 := of_decide_eq_true h4
     refine WL.run (d := 28) Q0 Q0 ?_
     refine WL.p Q0 (Yl.fieldAddr fa72_3 Q0) ?_
     refine WL.run (d := 28) Q0 Q0 ?_
     refine WL.p Q0 (Yl.loadB sca3 Q0 hs Q1 Q0) ?_
     refine WL.run (d := 28) Q0 Q0 ?_
     refine WL.callp hs Q0 (Yc.func Q0 fn90) (c_impl_InRange _ _ _ _) ?_
     clear hs; intro w hs
     refine WL.p Q0 (Yl.pickT Q0 Q0) ?_
     refine Qa ?_
     refine WL.next ?_
     refine WC.ret ?_
     refine fin1' rfl Q0 ?_
     refine RetP.mk hs ?_
     clear hs hb h_x
     try simp only [← inR_true] at *
     try simp only [← inR_false] at *
     simp_all [TResponse.isv]
     try (intro hh; omega)
    ·
     replace h4 := of_decide_eq_false h4
     refine WL.skip (d := 28) Q0 Q0 Q0 Q0 ?_
     refine WL.skip (d := 28) Q0 Q0 Q0 Q0 ?_
     refine WL.skip (d := 28) Q0 Q0 Q0 Q0 ?_
     refine WL.p Q0 (Yl.pickF Q0 Q0) ?_
     refine Qa ?_
     refine WL.next ?_
     refine WC.ret ?_
     refine fin1' rfl Q0 ?_
     refine RetP.mk hs ?_
     clear hs hb h_x
     try simp only [← inR_true] at *
     try simp only [← inR_false] at *
     simp_all [TResponse.isv]
     try (intro hh; omega)
   ·
    replace h3 := inR_false.1 h3
    refine WL.skip (d := 22) Q0 Q0 Q0 Q0 ?_
    refine WL.skip (d := 22) Q0 Q0 Q0 Q0 ?_
    refine WL.skip (d := 22) Q0 Q0 Q0 Q0 ?_
    refine WL.skip (d := 22) Q0 Q0 Q0 Q0 ?_
    refine WL.p Q0 (Yl.pickF Q0 Q0) ?_
    refine Qm ?_
    refine WL.skip (d := 28) Q0 Q0 Q0 Q0 ?_
    refine WL.skip (d := 28) Q0 Q0 Q0 Q0 ?_
    refine WL.skip (d := 28) Q0 Q0 Q0 Q0 ?_
    refine WL.p Q0 (Yl.pickF Q0 Q0) ?_
    refine Qa ?_
    refine WL.next ?_
    refine WC.ret ?_
    refine fin1' rfl Q0 ?_
    refine RetP.mk hs ?_
    clear hs hb h_x
    try simp only [← inR_true] at *
    try simp only [← inR_false] at *
    simp_all [TResponse.isv]
    try (intro hh; omega)
  ·
   replace h2 := inR_false.1 h2
   refine WL.skip (d := 17) Q0 Q0 Q0 Q0 ?_
   refine WL.skip (d := 17) Q0 Q0 Q0 Q0 ?_
   refine WL.skip (d := 17) Q0 Q0 Q0 Q0 ?_
   refine WL.p Q0 (Yl.pickF Q0 Q0) ?_
   refine Qm ?_
   refine WL.skip (d := 22) Q0 Q0 Q0 Q0 ?_
   refine WL.skip (d := 22) Q0 Q0 Q0 Q0 ?_
   refine WL.skip (d := 22) Q0 Q0 Q0 Q0 ?_
   refine WL.skip (d := 22) Q0 Q0 Q0 Q0 ?_
   refine WL.p Q0 (Yl.pickF Q0 Q0) ?_
   refine Qm ?_
   refine WL.skip (d := 28) Q0 Q0 Q0 Q0 ?_
   refine WL.skip (d := 28) Q0 Q0 Q0 Q0 ?_
   refine WL.skip (d := 28) Q0 Q0 Q0 Q0 ?_
   refine WL.p Q0 (Yl.pickF Q0 Q0) ?_
   refine Qa ?_
   refine WL.next ?_
   refine WC.ret ?_
   refine fin1' rfl Q0 ?_
   refine RetP.mk hs ?_
   clear hs hb h_x
   try simp only [← inR_true] at *
   try simp only [← inR_false] at *
   simp_all [TResponse.isv]
   try (intro hh; omega)
 ·
  refine WL.skip (d := 12) Q0 Q0 Q0 Q0 ?_
  refine WL.skip (d := 12) Q0 Q0 Q0 Q0 ?_
  refine WL.skip (d := 12) Q0 Q0 Q0 Q0 ?_
  refine WL.p Q0 (Yl.pickF Q0 Q0) ?_
  refine Qm ?_
  refine WL.skip (d := 17) Q0 Q0 Q0 Q0 ?_
  refine WL.skip (d := 17) Q0 Q0 Q0 Q0 ?_
  refine WL.skip (d := 17) Q0 Q0 Q0 Q0 ?_
  refine WL.p Q0 (Yl.pickF Q0 Q0) ?_
  refine Qm ?_
  refine WL.skip (d := 22) Q0 Q0 Q0 Q0 ?_
  refine WL.skip (d := 22) Q0 Q0 Q0 Q0 ?_
  refine WL.skip (d := 22) Q0 Q0 Q0 Q0 ?_
  refine WL.skip (d := 22) Q0 Q0 Q0 Q0 ?_
  refine WL.p Q0 (Yl.pickF Q0 Q0) ?_
  refine Qm ?_
  refine WL.skip (d := 28) Q0 Q0 Q0 Q0 ?_
  refine WL.skip (d := 28) Q0 Q0 Q0 Q0 ?_
  refine WL.skip (d := 28) Q0 Q0 Q0 Q0 ?_
  refine WL.p Q0 (Yl.pickF Q0 Q0) ?_
  refine Qa ?_
  refine WL.next ?_
  refine WC.ret ?_
  refine fin1' rfl Q0 ?_
  refine RetP.mk hs ?_
  clear hs hb h_x
  try simp only [← inR_true] at *
  try simp only [← inR_false] at *
  simp_all [TResponse.isv]
  try (intro hh; omega)

theorem c_impl_FitsKind (x : TResponse) (kind : Int) (w : World)   : Calls Tryz.prog 160 [.agg #[I x.status, I x.kind, S x.body, I x.age, Bo x.shares, S x.policy], I kind].toArray w (RetP w (Bo (fitsKind x.kind kind))) := by
 refine enterN 18 Tryz.func160 rfl rfl rfl ?_
 have hs := Sat.start w
 refine WC.seq ?_
 refine WL.r Q0 (Yr.box hs Q0 Q0) ?_
 clear hs; rintro _ w ⟨b1, rfl, hb, hs⟩; clear hb
 refine Qa ?_
 refine WL.next ?_
 refine WC.seq ?_
 refine WL.p Q0 (Yl.fieldAddr fa72_1 Q0) ?_
 refine WL.p Q0 (Yl.loadB sca3 Q0 hs Q1 Q0) ?_
 refine Qm ?_
 refine WL.p Q0 (Yl.eqi Q0 Q0) ?_
 refine Qm ?_
 refine WL.split (d := 9) Q0 (fun h1 => ?_) (fun h1 => ?_)
 ·
  replace h1 := of_decide_eq_true h1
  refine WL.skip (d := 9) Q0 Q0 Q0 Q0 ?_
  refine WL.skip (d := 9) Q0 Q0 Q0 Q0 ?_
  refine WL.skip (d := 9) Q0 Q0 Q0 Q0 ?_
  refine WL.skipU (d := 12) Q0 Q0 Q0 ?_
  refine WL.skipU (d := 12) Q0 Q0 Q0 ?_
  refine WL.skipU (d := 12) Q0 Q0 Q0 ?_
  refine WL.skip (d := 9) Q0 Q0 Q0 Q0 ?_
  refine WL.p Q0 (Yl.pickT Q0 Q0) ?_
  refine Qa ?_
  refine WL.next ?_
  refine WC.ret ?_
  refine fin1' rfl Q0 ?_
  refine RetP.mk hs ?_
  simp_all [fitsKind]
 ·
  replace h1 := of_decide_eq_false h1
  refine WL.run (d := 9) Q0 Q0 ?_
  refine Qm ?_
  refine WL.run (d := 9) Q0 Q0 ?_
  refine WL.p Q0 (Yl.eqi Q0 Q0) ?_
  refine WL.run (d := 9) Q0 Q0 ?_
  refine Qm ?_
  refine WL.split (d := 12) Q0 (fun h2 => ?_) (fun h2 => ?_)
  ·
   replace h2 := of_decide_eq_true h2
   refine WL.run (d := 12) Q0 Q0 ?_
   refine WL.p Q0 (Yl.fieldAddr fa72_1 Q0) ?_
   refine WL.run (d := 12) Q0 Q0 ?_
   refine WL.p Q0 (Yl.loadB sca3 Q0 hs Q1 Q0) ?_
   refine WL.run (d := 12) Q0 Q0 ?_
   refine WL.p Q0 (Yl.eqi Q0 Q0) ?_
   refine WL.run (d := 9) Q0 Q0 ?_
   refine WL.p Q0 (Yl.pickT Q0 Q0) ?_
   refine WL.p Q0 (Yl.pickF Q0 Q0) ?_
   refine Qa ?_
   refine WL.next ?_
   refine WC.ret ?_
   refine fin1' rfl Q0 ?_
   refine RetP.mk hs ?_
   simp_all [fitsKind]
  ·
   replace h2 := of_decide_eq_false h2
   refine WL.skip (d := 12) Q0 Q0 Q0 Q0 ?_
   refine WL.skip (d := 12) Q0 Q0 Q0 Q0 ?_
   refine WL.skip (d := 12) Q0 Q0 Q0 Q0 ?_
   refine WL.run (d := 9) Q0 Q0 ?_
   refine WL.p Q0 (Yl.pickF Q0 Q0) ?_
   refine WL.p Q0 (Yl.pickF Q0 Q0) ?_
   refine Qa ?_
   refine WL.next ?_
   refine WC.ret ?_
   refine fin1' rfl Q0 ?_
   refine RetP.mk hs ?_
   simp_all [fitsKind]

theorem c_strconv_Itoa (n : Int) (w : World) (h_n : Ph.ok w n) (ht_ : Tab10 Tryz.prog w) : Calls Tryz.prog 198 [I n].toArray w (RetP w (S (Lib.itoa n))) := by
 exact itoa_calls Tryz.strconv_Itoa n w h_n ht_

theorem c_impl_FormatInt (n : Int) (w : World) (h_n : Ph.ok w n) (ht_ : Tab10 Tryz.prog w) : Calls Tryz.prog 112 [I n].toArray w (RetP w (S (Lib.itoa n))) := by
 refine enterN 5 Tryz.func112 rfl rfl rfl ?_
 have hs := Sat.start w
 refine WC.seq ?_
 refine Qa ?_
 refine WL.next ?_
 refine WC.seq ?_
 refine Qm ?_
 refine WL.callp hs Q0 (Yc.func Q0 fn198) (c_strconv_Itoa _ _ (Ph.old h_n hs) (by first | assumption | exact Sat.tab hs (by assumption))) ?_
 clear hs; intro w hs
 refine Qa ?_
 refine WL.next ?_
 refine WC.ret ?_
 refine fin1' rfl Q0 ?_
 refine RetP.mk hs ?_
 rfl

theorem c_impl_Mod (p : Int) (q : Int) (w : World)   : Calls Tryz.prog 335 [I p, I q].toArray w (RetP w (I (modZ p q))) := by
 refine enterN 18 Tryz.func335 rfl rfl rfl ?_
 have hs := Sat.start w
 refine WC.seq ?_
 refine Qa ?_
 refine WL.next ?_
 refine WC.seq' ?_
 refine WC.seq ?_
 refine Qm ?_
 refine WL.callp hs Q0 (Yc.func Q0 fn90) (c_impl_InRange _ _ _ _) ?_
 clear hs; intro w hs
 refine WL.p Q0 (Yl.not Q0) ?_
 refine WL.next ?_
 refine WC.condS Q0 (fun h1 => ?_) (fun h1 => ?_)
 ·
  replace h1 := not_eq_true h1
  replace h1 := inR_false.1 h1
  refine WC.seq ?_
  refine Qa ?_
  refine WL.next ?_
  refine WC.ret ?_
  refine At.thenret ?_
  refine fin1' rfl Q0 ?_
  refine RetP.mk hs ?_
  rw [modZ_out Q7]
 ·
  replace h1 := not_eq_false h1
  replace h1 := inR_true.1 h1
  refine WC.skipn ?_
  refine WC.seq ?_
  refine Qm ?_
  refine Qm ?_
  refine WL.p Q0 (Yl.remw Q0 Q0 Q7) ?_
  refine Qa ?_
  refine WL.next ?_
  refine WC.seq' ?_
  refine WC.seq ?_
  refine Qm ?_
  refine WL.p Q0 (Yl.lss Q0 Q0) ?_
  refine WL.next ?_
  refine WC.condS Q0 (fun h2 => ?_) (fun h2 => ?_)
  ·
   replace h2 := of_decide_eq_true h2
   refine WC.region ?_
   refine Qm ?_
   refine Qm ?_
   refine WL.p Q0 (Yl.add Q0 Q0 (by have := tmod_or p (m := q) Q7; omega)) ?_
   refine Qa ?_
   refine WL.nil ?_
   refine At.then_ ?_
   refine WC.seq ?_
   refine Qm ?_
   refine Qa ?_
   refine WL.next ?_
   refine WC.ret ?_
   refine fin1' rfl Q0 ?_
   refine RetP.mk hs ?_
   rw [tmod_neg Q7 Q7, modZ, if_pos Q7]
  ·
   replace h2 := of_decide_eq_false h2
   refine WC.skipn ?_
   refine WC.seq ?_
   refine Qm ?_
   refine Qa ?_
   refine WL.next ?_
   refine WC.ret ?_
   refine fin1' rfl Q0 ?_
   refine RetP.mk hs ?_
   rw [tmod_nn Q7 Q7, modZ, if_pos Q7]

theorem c_impl_Hash (values : (Sl Int)) (w : World) (h_values : Ph.ok w values)  : Calls Tryz.prog 288 [Sl.v values].toArray w (RetP w (I (hash values.l))) := by
 have hw := h_values.lt
 refine enterN 21 Tryz.func288 rfl rfl rfl ?_
 have hs := Sat.start w
 refine WC.seq ?_
 refine Qa ?_
 refine WL.next ?_
 refine WC.seq ?_
 refine Qa ?_
 refine WL.next ?_
 refine WC.seq' ?_
 refine WC.seq ?_
 refine Qm ?_
 refine WL.p Q0 (Yl.len_sl slu62 Q0) ?_
 refine Qm ?_
 refine WL.next ?_
 refine WC.block ?_
 refine WC.loopC (ι := Nat × Int) (fun ⟨k, a⟩ => values.l.length - k) (fun ⟨k, a⟩ => [(8, I (k : Int)), (3, I a)]) (fun _ => []) (fun ⟨k, a⟩ => 0 ≤ a ∧ a < 2147483647 ∧ hash values.l = (values.l.drop k).foldl hashStep a) [(0, _), (2, _), (6, _), (7, _)] (0, 11) (hs) ⟨by rfl, by rfl, by rfl, by rfl, trivial⟩ ⟨by rfl, by rfl, trivial⟩ ?_ ?_
 ·
  exact ⟨by decide, by decide, by simp [hash]⟩
 clear hs; rintro ⟨k, a⟩ w ⟨hJ1, hJ2, hJ3⟩ hs
 simp only [List.nil_append] at hs
 refine WC.seq ?_
 refine WL.p Q0 (Yl.lss Q0 Q0) ?_
 refine WL.next ?_
 refine WC.seq' ?_
 refine WC.condS Q0 (fun h1 => ?_) (fun h1 => ?_)
 ·
  replace h1 := of_decide_eq_true h1
  obtain ⟨v, hd⟩ := exists_get (l := values.l) (k := k) Q7
  rw [drop_cons hd, List.foldl_cons] at hJ3
  have hmd := modZ_bd (n := v) (m := 2147483647) (by decide)
  have hst := hashStep_bd (v := v) hJ1
  refine WC.skipn ?_
  refine WC.seq' ?_
  refine WC.block ?_
  refine WC.seq ?_
  refine WL.p Q0 (Yl.indexAddr slt62 Q0 Q0 (Ph.old h_values hs) Q0 (hd)) ?_
  refine WL.p Q0 (Yl.loadC0 sca3 Q0 (Sl.Ok.at_ (Ph.old h_values hs) (by assumption)).2 Q0) ?_
  refine Qa ?_
  refine WL.next ?_
  refine WC.region ?_
  refine Qm ?_
  refine WL.p Q0 (Yl.mul Q0 Q0 Q7) ?_
  refine Qm ?_
  refine WL.callp hs Q0 (Yc.func Q0 fn335) (c_impl_Mod _ _ _) ?_
  clear hs; intro w hs
  refine WL.p Q0 (Yl.add Q0 Q0 Q7) ?_
  refine WL.p Q0 (Yl.add Q0 Q0 Q7) ?_
  refine WL.p Q0 (Yl.remw Q0 Q0 (by decide)) ?_
  refine Qa ?_
  refine WL.nil ?_
  refine At.blocknormal ?_
  refine At.then_ ?_
  refine WC.region ?_
  refine WL.p Q0 (Yl.add Q0 Q0 Q7) ?_
  refine Qm ?_
  refine WL.nil ?_
  refine At.roundC (k + 1, hashStep a v) (hs.only Q2) ⟨by rfl, by rfl, by rfl, by rfl, trivial⟩ ⟨by rfl, by rfl, trivial⟩ ?_ ?_
  ·
   show values.l.length - (k + 1) < values.l.length - k
   omega
  ·
   exact ⟨hst.1, hst.2, hJ3⟩
 ·
  replace h1 := of_decide_eq_false h1
  rw [drop_out (l := values.l) Q7] at hJ3
  refine WC.exit ?_
  refine At.thenexit ?_
  refine At.thenexit ?_
  refine At.blockexit ?_
  refine At.then_ ?_
  refine WC.seq ?_
  refine Qm ?_
  refine Qa ?_
  refine WL.next ?_
  refine WC.ret ?_
  refine fin1' rfl Q0 ?_
  refine RetP.mk hs ?_
  rw [hJ3]; rfl

theorem c_impl_BytesToInts (b : (Sl UInt8)) (w : World) (h_b : Ph.ok w b) (hb : b.l.length ≤ 1048576) : Calls Tryz.prog 289 [Sl.v b].toArray w (Ret w (fun v w' => ∃ x : Sl Int, v = x.v ∧ x.l = bytesInts b.l ∧ Fresh w x w')) := by
 have hw := h_b.lt
 refine enterN 22 Tryz.func289 rfl rfl rfl ?_
 have hs := Sat.start w
 refine WC.seq ?_
 refine Qa ?_
 refine WL.next ?_
 refine WC.seq ?_
 refine Qm ?_
 refine WL.p Q0 (Yl.len_sl slu22 Q0) ?_
 refine WL.r Q0 (Yr.buildSlice hs sll62 Q0 Q0 Q0 Q4 Q0) ?_
 clear hs; rintro _ w ⟨b1, rfl, hb, hs⟩; clear hb
 refine Qa ?_
 refine WL.next ?_
 refine WC.seq' ?_
 refine WC.seq ?_
 refine Qm ?_
 refine WL.p Q0 (Yl.len_sl slu22 Q0) ?_
 refine Qm ?_
 refine WL.next ?_
 refine WC.block ?_
 replace hs := Sat.boxow (l := [(b.l.length : Int)]) hs rfl rfl (by simp [maxLen]) (ownL_mk_flat (by intro x hx; obtain rfl := List.mem_singleton.1 hx; exact ⟨by omega, by omega⟩))
 refine WC.loopC (ι := Nat × Sl Int × List Nat) (fun ⟨k, s, F⟩ => b.l.length - k) (fun ⟨k, s, F⟩ => [(11, I (k : Int)), (3, s.v)]) (fun ⟨k, s, F⟩ => [ow s F]) (fun ⟨k, s, F⟩ => k ≤ b.l.length ∧ s.l = (b.l.length : Int) :: (b.l.take k).map (fun c => (c.toNat : Int))) [(0, _), (2, _), (9, _), (10, _)] (0, ⟨[(b.l.length : Int)], some ⟨b1, 0, none⟩, 1⟩, [b1]) (hs.sel (D := [ow (⟨[(b.l.length : Int)], some ⟨b1, 0, none⟩, 1⟩ : Sl Int) [b1]]) Q2) ⟨by rfl, by rfl, by rfl, by rfl, trivial⟩ ⟨by rfl, by rfl, trivial⟩ ?_ ?_
 ·
  exact ⟨Nat.zero_le _, by simp⟩
 clear hs; rintro ⟨k, s, F⟩ w ⟨hJ1, hJ2⟩ hs
 simp only [List.cons_append, List.nil_append] at hs
 refine WC.seq ?_
 refine WL.p Q0 (Yl.lss Q0 Q0) ?_
 refine WL.next ?_
 refine WC.seq' ?_
 refine WC.condS Q0 (fun h1 => ?_) (fun h1 => ?_)
 ·
  replace h1 := of_decide_eq_true h1
  obtain ⟨d, hd⟩ := exists_get (l := b.l) (k := k) Q7
  have htk : ((b.l.take k).map (fun c => (c.toNat : Int))).length = k := by simp; omega
  refine WC.skipn ?_
  refine WC.seq' ?_
  refine WC.block ?_
  refine WC.seq ?_
  refine WL.p Q0 (Yl.indexAddr slt22 Q0 Q0 (Ph.old h_b hs) Q0 (hd)) ?_
  refine WL.p Q0 (Yl.loadC0 sca5 Q0 (Sl.Ok.at_ (Ph.old h_b hs) (by assumption)).2 Q0) ?_
  refine Qa ?_
  refine WL.next ?_
  refine WC.region ?_
  refine Qm ?_
  refine Qm ?_
  refine WL.p Q0 (Yl.byteInt Q6 i64t3 Q0) ?_
  refine WL.r Q0 (Yr.buildSlice hs sll62 Q0 Q0 Q0 Q4 Q0) ?_
  clear hs; rintro _ w ⟨b2, rfl, hb, hs⟩; clear hb
  refine WL.r Q0 (Yr.append (s := s) (F := F) hs elt62 Q2 Q0 Q0 rfl (xs := [_]) (hs.box_cells Q1) (by intro x hx; obtain rfl := List.mem_singleton.1 hx; exact ⟨by have := d.toNat_lt; omega, by have := d.toNat_lt; omega⟩) (by rw [hJ2]; simp; unfold maxLen; omega) (by rw [hJ2]; simp; omega)) ?_
  clear hs; rintro _ w ⟨s3, F3, rfl, hl3, hs⟩
  refine Qa ?_
  refine WL.nil ?_
  refine At.blocknormal ?_
  refine At.then_ ?_
  refine WC.region ?_
  refine WL.p Q0 (Yl.add Q0 Q0 Q7) ?_
  refine Qm ?_
  refine WL.nil ?_
  refine At.roundC (k + 1, s3, F3) (hs.only Q2) ⟨by rfl, by rfl, by rfl, by rfl, trivial⟩ ⟨by rfl, by rfl, trivial⟩ ?_ ?_
  ·
   show b.l.length - (k + 1) < b.l.length - k
   omega
  ·
   exact ⟨by omega, by rw [hl3, hJ2, List.cons_append, take_map_step hd]⟩
 ·
  replace h1 := of_decide_eq_false h1
  refine WC.exit ?_
  refine At.thenexit ?_
  refine At.thenexit ?_
  refine At.blockexit ?_
  refine At.then_ ?_
  refine WC.seq ?_
  refine Qm ?_
  refine Qa ?_
  refine WL.next ?_
  refine WC.ret ?_
  refine fin1' rfl Q0 ?_
  refine Ret.mk hs ?_
  exact ⟨s, rfl, by rw [hJ2, show k = b.l.length from by omega]; simp [bytesInts], hs.fresh Q1⟩

theorem c_impl_DigestOf (body : Str) (w : World) (h_body : Ph.ok w body) (hb : body.length ≤ 1048576) : Calls Tryz.prog 231 [S body].toArray w (RetP w (I (digestN body))) := by
 have hw : body.length ≤ 9223372036854775807 := h_body
 refine enterN 9 Tryz.func231 rfl rfl rfl ?_
 have hs := Sat.start w
 refine WC.seq ?_
 refine Qa ?_
 refine WL.next ?_
 refine WC.seq ?_
 refine WL.r Q0 (Yr.buildSlice hs sll62 Q0 Q0 Q0 Q4 Q0) ?_
 clear hs; rintro _ w ⟨b1, rfl, hb, hs⟩; clear hb
 refine Qm ?_
 refine WL.r Q0 (Yr.strBytes hs str9 slu22 u8t5 Q0 (by exact hw)) ?_
 clear hs; rintro _ w ⟨r2, b2, rfl, hl2, hb, hs⟩; clear hb
 refine WL.call hs Q0 (Yc.func Q0 fn289) (c_impl_BytesToInts _ _ (hs.okrd (s := r2) (b := b2) Q1) (by rw [hl2]; exact hb)) ?_
 have hs0 := hs; clear hs; intro v w hb hR hs; clear hs
 obtain ⟨x3, rfl, hx3, hf3⟩ := hR
 obtain ⟨F3, hs⟩ := hf3.sat hs0 hb; clear hs0 hf3
 have hle3 := Sl.Ok.le (hs.okow (x := x3) (F := F3) Q1)
 replace hs := (Sat.boxow (l := ([151] : List Int)) (hs.sel (D := [box b1 _ _]) Q2) rfl rfl (by simp [maxLen]) (ownL_mk_flat (by intro x hx; obtain rfl := List.mem_singleton.1 hx; exact ⟨by decide, by decide⟩)))
 refine WL.r Q0 (Yr.appendS (s := (⟨[151], some ⟨b1, 0, none⟩, _⟩ : Sl Int)) (F := [b1]) (r := x3) hs elt62 Q2 Q0 Q0 (hs.okow (x := x3) (F := F3) Q1) (by rw [hx3, hl2]; simp [bytesInts]; unfold maxLen; omega) (by rw [hx3, hl2]; simp [bytesInts]; omega)) ?_
 clear hs; rintro _ w ⟨s4, F4, rfl, hl4, hs⟩
 refine WL.callp hs Q0 (Yc.func Q0 fn288) (c_impl_Hash _ _ (hs.okow (x := s4) (F := F4) Q1)) ?_
 clear hs; intro w hs
 refine Qa ?_
 refine WL.next ?_
 refine WC.ret ?_
 refine fin1' rfl Q0 ?_
 refine RetP.mk hs ?_
 simp only [hl4, hx3, hl2]; rfl

theorem c_impl_CheckDigest (body : Str) (value : Str) (w : World) (h_body : Ph.ok w body) (hb : body.length ≤ 1048576) (ht_ : Tab10 Tryz.prog w) : Calls Tryz.prog 161 [S body, S value].toArray w (RetP w (Bo (checkDigest body value))) := by
 refine enterN 14 Tryz.func161 rfl rfl rfl ?_
 have hs := Sat.start w
 refine WC.seq ?_
 refine Qa ?_
 refine WL.next ?_
 refine WC.seq ?_
 refine Qm ?_
 refine WL.p Q0 (Yl.eqs Q0 Q0) ?_
 refine Qm ?_
 refine WL.split (d := 7) Q0 (fun h1 => ?_) (fun h1 => ?_)
 ·
  replace h1 := of_decide_eq_true h1
  refine WL.skip (d := 7) Q0 Q0 Q0 Q0 ?_
  refine WL.skip (d := 7) Q0 Q0 Q0 Q0 ?_
  refine WL.skip (d := 7) Q0 Q0 Q0 Q0 ?_
  refine WL.skip (d := 7) Q0 Q0 Q0 Q0 ?_
  refine WL.skip (d := 7) Q0 Q0 Q0 Q0 ?_
  refine WL.p Q0 (Yl.pickT Q0 Q0) ?_
  refine Qa ?_
  refine WL.next ?_
  refine WC.ret ?_
  refine fin1' rfl Q0 ?_
  refine RetP.mk hs ?_
  simp_all [checkDigest]
 ·
  replace h1 := of_decide_eq_false h1
  refine WL.run (d := 7) Q0 Q0 ?_
  refine Qm ?_
  refine WL.run (d := 7) Q0 Q0 ?_
  refine Qm ?_
  refine WL.run (d := 7) Q0 Q0 ?_
  refine WL.callp hs Q0 (Yc.func Q0 fn231) (c_impl_DigestOf _ _ (Ph.old h_body hs) Q10) ?_
  clear hs; intro w hs
  refine WL.run (d := 7) Q0 Q0 ?_
  refine WL.callp hs Q0 (Yc.func Q0 fn112) (c_impl_FormatInt _ _ (digestN_wf _) (by first | assumption | exact Sat.tab hs (by assumption))) ?_
  clear hs; intro w hs
  refine WL.run (d := 7) Q0 Q0 ?_
  refine WL.p Q0 (Yl.eqs Q0 Q0) ?_
  refine WL.p Q0 (Yl.pickF Q0 Q0) ?_
  refine Qa ?_
  refine WL.next ?_
  refine WC.ret ?_
  refine fin1' rfl Q0 ?_
  refine RetP.mk hs ?_
  simp_all [checkDigest]

theorem c_impl_CheckResponse (p : PPolicy) (r : TRequest) (x : TResponse) (w : World) (h_p : Ph.ok w p) (h_r : Ph.ok w r) (h_x : Ph.ok w x) (hb : x.policy.length ≤ 1048576) (hb2 : x.body.length ≤ 1048576) (hm_ : ∃ m, w.cell? ⟨0, 0, none⟩ = some (.int .i64 m)) (ht_ : Tab10 Tryz.prog w) : Calls Tryz.prog 61 [.agg #[Bo p.set, Sl.v p.scripts, Sl.v p.styles, Sl.v p.images, S p.nonce], .agg #[I r.kind, S r.to.host, S r.to.path, S r.frm, S r.digest], .agg #[I x.status, I x.kind, S x.body, I x.age, Bo x.shares, S x.policy]].toArray w (RetP w (I (checkResp p.lg r x))) := by
 refine enterN 59 Tryz.func61 rfl rfl rfl ?_
 have hs := Sat.start w
 refine WC.seq ?_
 refine WL.r Q0 (Yr.box hs Q0 Q0) ?_
 clear hs; rintro _ w ⟨b1, rfl, hb, hs⟩; clear hb
 refine WL.r Q0 (Yr.box hs Q0 Q0) ?_
 clear hs; rintro _ w ⟨b2, rfl, hb, hs⟩; clear hb
 refine WL.r Q0 (Yr.box hs Q0 Q0) ?_
 clear hs; rintro _ w ⟨b3, rfl, hb, hs⟩; clear hb
 refine Qa ?_
 refine WL.next ?_
 refine WC.seq' ?_
 refine WC.block ?_
 refine WC.seq ?_
 refine WL.p Q0 (Yl.loadAB agg108 Q0 hs Q1 Q0 Q0) ?_
 refine WL.p Q0 (Yl.loadAB agg110 Q0 hs Q1 Q0 Q0) ?_
 refine WL.callp hs Q0 (Yc.func Q0 fn65) (c_impl_CheckRequest _ _ _ (Ph.old h_p hs) (Ph.old h_r hs)) ?_
 clear hs; intro w hs
 refine WL.p Q0 (Yl.nei Q0 Q0) ?_
 refine Qa ?_
 refine WL.next ?_
 refine WC.condS Q0 (fun h1 => ?_) (fun h1 => ?_)
 ·
  replace h1 := not_eq_true h1
  replace h1 := of_decide_eq_false h1
  refine WC.seq ?_
  refine WL.p Q0 (Yl.loadAB agg108 Q0 hs Q1 Q0 Q0) ?_
  refine WL.p Q0 (Yl.loadAB agg110 Q0 hs Q1 Q0 Q0) ?_
  refine WL.callp hs Q0 (Yc.func Q0 fn65) (c_impl_CheckRequest _ _ _ (Ph.old h_p hs) (Ph.old h_r hs)) ?_
  clear hs; intro w hs
  refine Qa ?_
  refine WL.next ?_
  refine WC.ret ?_
  refine At.blockret ?_
  refine At.thenret ?_
  refine fin1' rfl Q0 ?_
  refine RetP.mk hs ?_
  have e9_ := checkReq_or p.lg r
  simp_all [checkResp]
 ·
  replace h1 := not_eq_false h1
  replace h1 := of_decide_eq_true h1
  refine WC.seq ?_
  refine WL.p Q0 (Yl.loadAB agg72 Q0 hs Q1 Q0 Q0) ?_
  refine WL.callp hs Q0 (Yc.func Q0 fn130) (c_impl_IsResponse _ _ (Ph.old h_x hs) (by exact hb) (by first | assumption | exact Sat.cellm hs (by assumption))) ?_
  clear hs; intro w hs
  refine WL.p Q0 (Yl.not Q0) ?_
  refine Qm ?_
  refine WL.split (d := 19) Q0 (fun h2 => ?_) (fun h2 => ?_)
  ·
   replace h2 := not_eq_true h2
   refine WL.skip (d := 19) Q0 Q0 Q0 Q0 ?_
   refine WL.skip (d := 19) Q0 Q0 Q0 Q0 ?_
   refine WL.skip (d := 19) Q0 Q0 Q0 Q0 ?_
   refine WL.p Q0 (Yl.pickT Q0 Q0) ?_
   refine Qa ?_
   refine WL.next ?_
   refine WC.condT Q0 ?_
   refine WC.seq ?_
   refine Qa ?_
   refine WL.next ?_
   refine WC.ret ?_
   refine At.blockret ?_
   refine At.thenret ?_
   refine fin1' rfl Q0 ?_
   refine RetP.mk hs ?_
   have e9_ := checkReq_or p.lg r
   simp_all [checkResp]
  ·
   replace h2 := not_eq_false h2
   refine WL.run (d := 19) Q0 Q0 ?_
   refine WL.p Q0 (Yl.fieldAddr fa72_0 Q0) ?_
   refine WL.run (d := 19) Q0 Q0 ?_
   refine WL.p Q0 (Yl.loadB sca3 Q0 hs Q1 Q0) ?_
   refine WL.run (d := 19) Q0 Q0 ?_
   refine WL.p Q0 (Yl.nei Q0 Q0) ?_
   refine WL.p Q0 (Yl.pickF Q0 Q0) ?_
   refine Qa ?_
   refine WL.next ?_
   refine WC.condS Q0 (fun h3 => ?_) (fun h3 => ?_)
   ·
    replace h3 := not_eq_true h3
    replace h3 := of_decide_eq_false h3
    refine WC.seq ?_
    refine Qa ?_
    refine WL.next ?_
    refine WC.ret ?_
    refine At.blockret ?_
    refine At.thenret ?_
    refine fin1' rfl Q0 ?_
    refine RetP.mk hs ?_
    have e9_ := checkReq_or p.lg r
    simp_all [checkResp]
   ·
    replace h3 := not_eq_false h3
    replace h3 := of_decide_eq_true h3
    refine WC.seq ?_
    refine WL.p Q0 (Yl.loadAB agg72 Q0 hs Q1 Q0 Q0) ?_
    refine WL.p Q0 (Yl.fieldAddr fa110_0 Q0) ?_
    refine WL.p Q0 (Yl.loadB sca3 Q0 hs Q1 Q0) ?_
    refine WL.callp hs Q0 (Yc.func Q0 fn160) (c_impl_FitsKind _ _ _) ?_
    clear hs; intro w hs
    refine WL.p Q0 (Yl.not Q0) ?_
    refine Qa ?_
    refine WL.next ?_
    refine WC.condS Q0 (fun h4 => ?_) (fun h4 => ?_)
    ·
     replace h4 := not_eq_true h4
     refine WC.seq ?_
     refine Qa ?_
     refine WL.next ?_
     refine WC.ret ?_
     refine At.blockret ?_
     refine At.thenret ?_
     refine fin1' rfl Q0 ?_
     refine RetP.mk hs ?_
     have e9_ := checkReq_or p.lg r
     simp_all [checkResp]
    ·
     replace h4 := not_eq_false h4
     refine WC.seq ?_
     refine WL.p Q0 (Yl.fieldAddr fa110_2 Q0) ?_
     refine WL.p Q0 (Yl.loadB sca9 Q0 hs Q1 Q0) ?_
     refine WL.p Q0 (Yl.fieldAddr fa110_1 Q0) ?_
     refine WL.p Q0 (Yl.fieldAddr fa39_0 Q0) ?_
     refine WL.p Q0 (Yl.loadB sca9 Q0 hs Q1 Q0) ?_
     refine WL.p Q0 (Yl.nes Q0 Q0) ?_
     refine Qm ?_
     refine WL.split (d := 37) Q0 (fun h5 => ?_) (fun h5 => ?_)
     ·
      replace h5 := not_eq_true h5
      replace h5 := of_decide_eq_false h5
      refine WL.run (d := 37) Q0 Q0 ?_
      refine WL.p Q0 (Yl.fieldAddr fa72_4 Q0) ?_
      refine WL.run (d := 37) Q0 Q0 ?_
      refine WL.p Q0 (Yl.loadB sca4 Q0 hs Q1 Q0) ?_
      refine WL.run (d := 37) Q0 Q0 ?_
      refine WL.p Q0 (Yl.not Q0) ?_
      refine WL.p Q0 (Yl.pickT Q0 Q0) ?_
      refine Qm ?_
      refine WL.split (d := 42) Q0 (fun h6 => ?_) (fun h6 => ?_)
      ·
       replace h6 := not_eq_true h6
       refine WL.run (d := 42) Q0 Q0 ?_
       refine WL.p Q0 (Yl.fieldAddr fa110_0 Q0) ?_
       refine WL.run (d := 42) Q0 Q0 ?_
       refine WL.p Q0 (Yl.loadB sca3 Q0 hs Q1 Q0) ?_
       refine WL.run (d := 42) Q0 Q0 ?_
       refine WL.p Q0 (Yl.eqi Q0 Q0) ?_
       refine WL.run (d := 42) Q0 Q0 ?_
       refine Qm ?_
       refine WL.split (d := 46) Q0 (fun h7 => ?_) (fun h7 => ?_)
       ·
        replace h7 := of_decide_eq_true h7
        refine WL.skip (d := 46) Q0 Q0 Q0 Q0 ?_
        refine WL.skip (d := 46) Q0 Q0 Q0 Q0 ?_
        refine WL.skip (d := 46) Q0 Q0 Q0 Q0 ?_
        refine WL.run (d := 42) Q0 Q0 ?_
        refine WL.p Q0 (Yl.pickT Q0 Q0) ?_
        refine WL.p Q0 (Yl.pickT Q0 Q0) ?_
        refine Qa ?_
        refine WL.next ?_
        refine WC.condT Q0 ?_
        refine WC.seq ?_
        refine Qa ?_
        refine WL.next ?_
        refine WC.ret ?_
        refine At.blockret ?_
        refine At.thenret ?_
        refine fin1' rfl Q0 ?_
        refine RetP.mk hs ?_
        have e9_ := checkReq_or p.lg r
        simp_all [checkResp]
       ·
        replace h7 := of_decide_eq_false h7
        refine WL.run (d := 46) Q0 Q0 ?_
        refine WL.p Q0 (Yl.fieldAddr fa110_3 Q0) ?_
        refine WL.run (d := 46) Q0 Q0 ?_
        refine WL.p Q0 (Yl.loadB sca9 Q0 hs Q1 Q0) ?_
        refine WL.run (d := 46) Q0 Q0 ?_
        refine WL.p Q0 (Yl.nes Q0 Q0) ?_
        refine WL.run (d := 42) Q0 Q0 ?_
        refine WL.p Q0 (Yl.pickF Q0 Q0) ?_
        refine WL.p Q0 (Yl.pickT Q0 Q0) ?_
        refine Qa ?_
        refine WL.next ?_
        refine WC.condS Q0 (fun h8 => ?_) (fun h8 => ?_)
        ·
         replace h8 := not_eq_true h8
         replace h8 := of_decide_eq_false h8
         refine WC.seq ?_
         refine Qa ?_
         refine WL.next ?_
         refine WC.ret ?_
         refine At.blockret ?_
         refine At.thenret ?_
         refine fin1' rfl Q0 ?_
         refine RetP.mk hs ?_
         have e9_ := checkReq_or p.lg r
         simp_all [checkResp]
        ·
         replace h8 := not_eq_false h8
         replace h8 := of_decide_eq_true h8
         refine WC.seq ?_
         refine WL.p Q0 (Yl.fieldAddr fa72_2 Q0) ?_
         refine WL.p Q0 (Yl.loadB sca9 Q0 hs Q1 Q0) ?_
         refine WL.p Q0 (Yl.fieldAddr fa110_3 Q0) ?_
         refine WL.p Q0 (Yl.loadB sca9 Q0 hs Q1 Q0) ?_
         refine WL.callp hs Q0 (Yc.func Q0 fn161) (c_impl_CheckDigest _ _ _ (Ph.old h_x.body hs) (by exact hb2) (by first | assumption | exact Sat.tab hs (by assumption))) ?_
         clear hs; intro w hs
         refine WL.p Q0 (Yl.not Q0) ?_
         refine Qa ?_
         refine WL.next ?_
         refine WC.condS Q0 (fun h9 => ?_) (fun h9 => ?_)
         ·
          replace h9 := not_eq_true h9
          refine WC.seq ?_
          refine Qa ?_
          refine WL.next ?_
          refine WC.ret ?_
          refine At.blockret ?_
          refine At.thenret ?_
          refine fin1' rfl Q0 ?_
          refine RetP.mk hs ?_
          have e9_ := checkReq_or p.lg r
          simp_all [checkResp]
         ·
          replace h9 := not_eq_false h9
          refine WC.skip ?_
          refine At.blocknormal ?_
          refine At.then_ ?_
          refine WC.seq ?_
          refine Qa ?_
          refine WL.next ?_
          refine WC.ret ?_
          refine fin1' rfl Q0 ?_
          refine RetP.mk hs ?_
          have e9_ := checkReq_or p.lg r
          simp_all [checkResp]
      ·
       replace h6 := not_eq_false h6
       refine WL.skip (d := 42) Q0 Q0 Q0 Q0 ?_
       refine WL.skip (d := 42) Q0 Q0 Q0 Q0 ?_
       refine WL.skip (d := 42) Q0 Q0 Q0 Q0 ?_
       refine WL.skip (d := 42) Q0 Q0 Q0 Q0 ?_
       refine WL.skipU (d := 46) Q0 Q0 Q0 ?_
       refine WL.skipU (d := 46) Q0 Q0 Q0 ?_
       refine WL.skipU (d := 46) Q0 Q0 Q0 ?_
       refine WL.skip (d := 42) Q0 Q0 Q0 Q0 ?_
       refine WL.p Q0 (Yl.pickF Q0 Q0) ?_
       refine Qa ?_
       refine WL.next ?_
       refine WC.condF Q0 ?_
       refine WC.seq ?_
       refine WL.p Q0 (Yl.fieldAddr fa72_2 Q0) ?_
       refine WL.p Q0 (Yl.loadB sca9 Q0 hs Q1 Q0) ?_
       refine WL.p Q0 (Yl.fieldAddr fa110_3 Q0) ?_
       refine WL.p Q0 (Yl.loadB sca9 Q0 hs Q1 Q0) ?_
       refine WL.callp hs Q0 (Yc.func Q0 fn161) (c_impl_CheckDigest _ _ _ (Ph.old h_x.body hs) (by exact hb2) (by first | assumption | exact Sat.tab hs (by assumption))) ?_
       clear hs; intro w hs
       refine WL.p Q0 (Yl.not Q0) ?_
       refine Qa ?_
       refine WL.next ?_
       refine WC.condS Q0 (fun h7 => ?_) (fun h7 => ?_)
       ·
        replace h7 := not_eq_true h7
        refine WC.seq ?_
        refine Qa ?_
        refine WL.next ?_
        refine WC.ret ?_
        refine At.blockret ?_
        refine At.thenret ?_
        refine fin1' rfl Q0 ?_
        refine RetP.mk hs ?_
        have e9_ := checkReq_or p.lg r
        simp_all [checkResp]
       ·
        replace h7 := not_eq_false h7
        refine WC.skip ?_
        refine At.blocknormal ?_
        refine At.then_ ?_
        refine WC.seq ?_
        refine Qa ?_
        refine WL.next ?_
        refine WC.ret ?_
        refine fin1' rfl Q0 ?_
        refine RetP.mk hs ?_
        have e9_ := checkReq_or p.lg r
        simp_all [checkResp]
     ·
      replace h5 := not_eq_false h5
      replace h5 := of_decide_eq_true h5
      refine WL.skip (d := 37) Q0 Q0 Q0 Q0 ?_
      refine WL.skip (d := 37) Q0 Q0 Q0 Q0 ?_
      refine WL.skip (d := 37) Q0 Q0 Q0 Q0 ?_
      refine WL.p Q0 (Yl.pickF Q0 Q0) ?_
      refine Qm ?_
      refine WL.skip (d := 42) Q0 Q0 Q0 Q0 ?_
      refine WL.skip (d := 42) Q0 Q0 Q0 Q0 ?_
      refine WL.skip (d := 42) Q0 Q0 Q0 Q0 ?_
      refine WL.skip (d := 42) Q0 Q0 Q0 Q0 ?_
      refine WL.skipU (d := 46) Q0 Q0 Q0 ?_
      refine WL.skipU (d := 46) Q0 Q0 Q0 ?_
      refine WL.skipU (d := 46) Q0 Q0 Q0 ?_
      refine WL.skip (d := 42) Q0 Q0 Q0 Q0 ?_
      refine WL.p Q0 (Yl.pickF Q0 Q0) ?_
      refine Qa ?_
      refine WL.next ?_
      refine WC.condF Q0 ?_
      refine WC.seq ?_
      refine WL.p Q0 (Yl.fieldAddr fa72_2 Q0) ?_
      refine WL.p Q0 (Yl.loadB sca9 Q0 hs Q1 Q0) ?_
      refine WL.p Q0 (Yl.fieldAddr fa110_3 Q0) ?_
      refine WL.p Q0 (Yl.loadB sca9 Q0 hs Q1 Q0) ?_
      refine WL.callp hs Q0 (Yc.func Q0 fn161) (c_impl_CheckDigest _ _ _ (Ph.old h_x.body hs) (by exact hb2) (by first | assumption | exact Sat.tab hs (by assumption))) ?_
      clear hs; intro w hs
      refine WL.p Q0 (Yl.not Q0) ?_
      refine Qa ?_
      refine WL.next ?_
      refine WC.condS Q0 (fun h6 => ?_) (fun h6 => ?_)
      ·
       replace h6 := not_eq_true h6
       refine WC.seq ?_
       refine Qa ?_
       refine WL.next ?_
       refine WC.ret ?_
       refine At.blockret ?_
       refine At.thenret ?_
       refine fin1' rfl Q0 ?_
       refine RetP.mk hs ?_
       have e9_ := checkReq_or p.lg r
       simp_all [checkResp]
      ·
       replace h6 := not_eq_false h6
       refine WC.skip ?_
       refine At.blocknormal ?_
       refine At.then_ ?_
       refine WC.seq ?_
       refine Qa ?_
       refine WL.next ?_
       refine WC.ret ?_
       refine fin1' rfl Q0 ?_
       refine RetP.mk hs ?_
       have e9_ := checkReq_or p.lg r
       simp_all [checkResp]

theorem c_impl_UsableBody (p : PPolicy) (r : TRequest) (x : TResponse) (w : World) (h_p : Ph.ok w p) (h_r : Ph.ok w r) (h_x : Ph.ok w x) (hb : x.policy.length ≤ 1048576) (hb2 : x.body.length ≤ 1048576) (hm_ : ∃ m, w.cell? ⟨0, 0, none⟩ = some (.int .i64 m)) (ht_ : Tab10 Tryz.prog w) : Calls Tryz.prog 62 [.agg #[Bo p.set, Sl.v p.scripts, Sl.v p.styles, Sl.v p.images, S p.nonce], .agg #[I r.kind, S r.to.host, S r.to.path, S r.frm, S r.digest], .agg #[I x.status, I x.kind, S x.body, I x.age, Bo x.shares, S x.policy]].toArray w (RetP w (.tuple #[S (if checkResp p.lg r x = 1 then x.body else []), Bo (decide (checkResp p.lg r x = 1))])) := by
 refine enterN 15 Tryz.func62 rfl rfl rfl ?_
 have hs := Sat.start w
 refine WC.seq ?_
 refine WL.r Q0 (Yr.box hs Q0 Q0) ?_
 clear hs; rintro _ w ⟨b1, rfl, hb, hs⟩; clear hb
 refine WL.r Q0 (Yr.box hs Q0 Q0) ?_
 clear hs; rintro _ w ⟨b2, rfl, hb, hs⟩; clear hb
 refine WL.r Q0 (Yr.box hs Q0 Q0) ?_
 clear hs; rintro _ w ⟨b3, rfl, hb, hs⟩; clear hb
 refine Qa ?_
 refine Qa ?_
 refine WL.next ?_
 refine WC.seq' ?_
 refine WC.seq ?_
 refine WL.p Q0 (Yl.loadAB agg108 Q0 hs Q1 Q0 Q0) ?_
 refine WL.p Q0 (Yl.loadAB agg110 Q0 hs Q1 Q0 Q0) ?_
 refine WL.p Q0 (Yl.loadAB agg72 Q0 hs Q1 Q0 Q0) ?_
 refine WL.callp hs Q0 (Yc.func Q0 fn61) (c_impl_CheckResponse _ _ _ _ (Ph.old h_p hs) (Ph.old h_r hs) (Ph.old h_x hs) Q10 Q10 (by first | assumption | exact Sat.cellm hs (by assumption)) (by first | assumption | exact Sat.tab hs (by assumption))) ?_
 clear hs; intro w hs
 refine WL.p Q0 (Yl.nei Q0 Q0) ?_
 refine WL.next ?_
 refine WC.condS Q0 (fun h1 => ?_) (fun h1 => ?_)
 ·
  replace h1 := not_eq_true h1
  replace h1 := of_decide_eq_false h1
  refine WC.seq ?_
  refine Qa ?_
  refine Qa ?_
  refine WL.next ?_
  refine WC.ret ?_
  refine At.thenret ?_
  refine fin2' rfl Q0 Q0 ?_
  refine RetP.mk hs ?_
  simp_all
 ·
  replace h1 := not_eq_false h1
  replace h1 := of_decide_eq_true h1
  refine WC.skipn ?_
  refine WC.seq ?_
  refine WL.p Q0 (Yl.fieldAddr fa72_2 Q0) ?_
  refine WL.p Q0 (Yl.loadB sca9 Q0 hs Q1 Q0) ?_
  refine Qa ?_
  refine Qa ?_
  refine WL.next ?_
  refine WC.ret ?_
  refine fin2' rfl Q0 Q0 ?_
  refine RetP.mk hs ?_
  simp_all

theorem c_spec_FitsKind (x : TResponse) (kind : Int) (w : World)   : Calls Tryz.prog 67 [.agg #[I x.status, I x.kind, S x.body, I x.age, Bo x.shares, S x.policy], I kind].toArray w (RetP w (Bo (fitsKind x.kind kind))) := by
 refine enterN 18 Tryz.func67 rfl rfl rfl ?_
 have hs := Sat.start w
 refine WC.seq ?_
 refine WL.r Q0 (Yr.box hs Q0 Q0) ?_
 clear hs; rintro _ w ⟨b1, rfl, hb, hs⟩; clear hb
 refine Qa ?_
 refine WL.next ?_
 refine WC.seq ?_
 refine WL.p Q0 (Yl.fieldAddr fa72_1 Q0) ?_
 refine WL.p Q0 (Yl.loadB sca3 Q0 hs Q1 Q0) ?_
 refine Qm ?_
 refine WL.p Q0 (Yl.eqi Q0 Q0) ?_
 refine Qm ?_
 refine WL.split (d := 9) Q0 (fun h1 => ?_) (fun h1 => ?_)
 ·
  replace h1 := of_decide_eq_true h1
  refine WL.skip (d := 9) Q0 Q0 Q0 Q0 ?_
  refine WL.skip (d := 9) Q0 Q0 Q0 Q0 ?_
  refine WL.skip (d := 9) Q0 Q0 Q0 Q0 ?_
  refine WL.skipU (d := 12) Q0 Q0 Q0 ?_
  refine WL.skipU (d := 12) Q0 Q0 Q0 ?_
  refine WL.skipU (d := 12) Q0 Q0 Q0 ?_
  refine WL.skip (d := 9) Q0 Q0 Q0 Q0 ?_
  refine WL.p Q0 (Yl.pickT Q0 Q0) ?_
  refine Qa ?_
  refine WL.next ?_
  refine WC.ret ?_
  refine fin1' rfl Q0 ?_
  refine RetP.mk hs ?_
  simp_all [fitsKind]
 ·
  replace h1 := of_decide_eq_false h1
  refine WL.run (d := 9) Q0 Q0 ?_
  refine Qm ?_
  refine WL.run (d := 9) Q0 Q0 ?_
  refine WL.p Q0 (Yl.eqi Q0 Q0) ?_
  refine WL.run (d := 9) Q0 Q0 ?_
  refine Qm ?_
  refine WL.split (d := 12) Q0 (fun h2 => ?_) (fun h2 => ?_)
  ·
   replace h2 := of_decide_eq_true h2
   refine WL.run (d := 12) Q0 Q0 ?_
   refine WL.p Q0 (Yl.fieldAddr fa72_1 Q0) ?_
   refine WL.run (d := 12) Q0 Q0 ?_
   refine WL.p Q0 (Yl.loadB sca3 Q0 hs Q1 Q0) ?_
   refine WL.run (d := 12) Q0 Q0 ?_
   refine WL.p Q0 (Yl.eqi Q0 Q0) ?_
   refine WL.run (d := 9) Q0 Q0 ?_
   refine WL.p Q0 (Yl.pickT Q0 Q0) ?_
   refine WL.p Q0 (Yl.pickF Q0 Q0) ?_
   refine Qa ?_
   refine WL.next ?_
   refine WC.ret ?_
   refine fin1' rfl Q0 ?_
   refine RetP.mk hs ?_
   simp_all [fitsKind]
  ·
   replace h2 := of_decide_eq_false h2
   refine WL.skip (d := 12) Q0 Q0 Q0 Q0 ?_
   refine WL.skip (d := 12) Q0 Q0 Q0 Q0 ?_
   refine WL.skip (d := 12) Q0 Q0 Q0 Q0 ?_
   refine WL.run (d := 9) Q0 Q0 ?_
   refine WL.p Q0 (Yl.pickF Q0 Q0) ?_
   refine WL.p Q0 (Yl.pickF Q0 Q0) ?_
   refine Qa ?_
   refine WL.next ?_
   refine WC.ret ?_
   refine fin1' rfl Q0 ?_
   refine RetP.mk hs ?_
   simp_all [fitsKind]

theorem c_spec_IsAddr (a : TAddr) (w : World) (h_a : Ph.ok w a)  : Calls Tryz.prog 40 [.agg #[S a.host, S a.path]].toArray w (RetP w (Bo (a.is))) := by
 refine enterN 11 Tryz.func40 rfl rfl rfl ?_
 have hs := Sat.start w
 refine WC.seq ?_
 refine WL.r Q0 (Yr.box hs Q0 Q0) ?_
 clear hs; rintro _ w ⟨b1, rfl, hb, hs⟩; clear hb
 refine Qa ?_
 refine WL.next ?_
 refine WC.seq ?_
 refine WL.p Q0 (Yl.fieldAddr fa39_0 Q0) ?_
 refine WL.p Q0 (Yl.loadB sca9 Q0 hs Q1 Q0) ?_
 refine WL.callp hs Q0 (Yc.func Q0 fn110) (c_spec_IsName _ _ (Ph.old h_a.host hs)) ?_
 clear hs; intro w hs
 refine Qm ?_
 refine WL.split (d := 6) Q0 (fun h1 => ?_) (fun h1 => ?_)
 ·
  refine WL.run (d := 6) Q0 Q0 ?_
  refine WL.p Q0 (Yl.fieldAddr fa39_1 Q0) ?_
  refine WL.run (d := 6) Q0 Q0 ?_
  refine WL.p Q0 (Yl.loadB sca9 Q0 hs Q1 Q0) ?_
  refine WL.run (d := 6) Q0 Q0 ?_
  refine WL.callp hs Q0 (Yc.func Q0 fn110) (c_spec_IsName _ _ (Ph.old h_a.path hs)) ?_
  clear hs; intro w hs
  refine WL.p Q0 (Yl.pickT Q0 Q0) ?_
  refine Qa ?_
  refine WL.next ?_
  refine WC.ret ?_
  refine fin1' rfl Q0 ?_
  refine RetP.mk hs ?_
  simp_all [TAddr.is]
 ·
  refine WL.skip (d := 6) Q0 Q0 Q0 Q0 ?_
  refine WL.skip (d := 6) Q0 Q0 Q0 Q0 ?_
  refine WL.skip (d := 6) Q0 Q0 Q0 Q0 ?_
  refine WL.p Q0 (Yl.pickF Q0 Q0) ?_
  refine Qa ?_
  refine WL.next ?_
  refine WC.ret ?_
  refine fin1' rfl Q0 ?_
  refine RetP.mk hs ?_
  simp_all [TAddr.is]

theorem c_spec_IsRequest (r : TRequest) (w : World) (h_r : Ph.ok w r)  : Calls Tryz.prog 170 [.agg #[I r.kind, S r.to.host, S r.to.path, S r.frm, S r.digest]].toArray w (RetP w (Bo (r.is))) := by
 refine enterN 26 Tryz.func170 rfl rfl rfl ?_
 have hs := Sat.start w
 refine WC.seq ?_
 refine WL.r Q0 (Yr.box hs Q0 Q0) ?_
 clear hs; rintro _ w ⟨b1, rfl, hb, hs⟩; clear hb
 refine Qa ?_
 refine WL.next ?_
 refine WC.seq ?_
 refine WL.p Q0 (Yl.fieldAddr fa110_0 Q0) ?_
 refine WL.p Q0 (Yl.loadB sca3 Q0 hs Q1 Q0) ?_
 refine WL.callp hs Q0 (Yc.func Q0 fn95) (c_spec_l1In _ _ _ _) ?_
 clear hs; intro w hs
 refine Qm ?_
 refine WL.split (d := 6) Q0 (fun h1 => ?_) (fun h1 => ?_)
 ·
  replace h1 := inR_true.1 h1
  refine WL.run (d := 6) Q0 Q0 ?_
  refine WL.p Q0 (Yl.fieldAddr fa110_1 Q0) ?_
  refine WL.run (d := 6) Q0 Q0 ?_
  refine WL.p Q0 (Yl.loadAB agg39 Q0 hs Q1 Q0 Q0) ?_
  refine WL.run (d := 6) Q0 Q0 ?_
  refine WL.callp hs Q0 (Yc.func Q0 fn40) (c_spec_IsAddr _ _ ⟨(Ph.old h_r.to.host hs), (Ph.old h_r.to.path hs)⟩) ?_
  clear hs; intro w hs
  refine WL.p Q0 (Yl.pickT Q0 Q0) ?_
  refine Qm ?_
  refine WL.split (d := 11) Q0 (fun h2 => ?_) (fun h2 => ?_)
  ·
   refine WL.run (d := 11) Q0 Q0 ?_
   refine WL.p Q0 (Yl.fieldAddr fa110_2 Q0) ?_
   refine WL.run (d := 11) Q0 Q0 ?_
   refine WL.p Q0 (Yl.loadB sca9 Q0 hs Q1 Q0) ?_
   refine WL.run (d := 11) Q0 Q0 ?_
   refine WL.callp hs Q0 (Yc.func Q0 fn110) (c_spec_IsName _ _ (Ph.old h_r.frm hs)) ?_
   clear hs; intro w hs
   refine WL.p Q0 (Yl.pickT Q0 Q0) ?_
   refine Qm ?_
   refine WL.split (d := 16) Q0 (fun h3 => ?_) (fun h3 => ?_)
   ·
    refine WL.run (d := 16) Q0 Q0 ?_
    refine WL.p Q0 (Yl.fieldAddr fa110_3 Q0) ?_
    refine WL.run (d := 16) Q0 Q0 ?_
    refine WL.p Q0 (Yl.loadB sca9 Q0 hs Q1 Q0) ?_
    refine WL.run (d := 16) Q0 Q0 ?_
    refine WL.p Q0 (Yl.eqs Q0 Q0) ?_
    refine WL.run (d := 16) Q0 Q0 ?_
    refine Qm ?_
    refine WL.split (d := 20) Q0 (fun h4 => ?_) (fun h4 => ?_)
    ·
     replace h4 := of_decide_eq_true h4
     refine WL.skip (d := 20) Q0 Q0 Q0 Q0 ?_
     refine WL.skip (d := 20) Q0 Q0 Q0 Q0 ?_
     refine WL.skip (d := 20) Q0 Q0 Q0 Q0 ?_
     refine WL.run (d := 16) Q0 Q0 ?_
     refine WL.p Q0 (Yl.pickT Q0 Q0) ?_
     refine WL.p Q0 (Yl.pickT Q0 Q0) ?_
     refine Qa ?_
     refine WL.next ?_
     refine WC.ret ?_
     refine fin1' rfl Q0 ?_
     refine RetP.mk hs ?_
     first
      | (rw [← inR_true] at h1; simp_all [TRequest.is]; done)
      | (rw [← inR_false] at h1; simp_all [TRequest.is])
    ·
     replace h4 := of_decide_eq_false h4
     refine WL.run (d := 20) Q0 Q0 ?_
     refine WL.p Q0 (Yl.fieldAddr fa110_3 Q0) ?_
     refine WL.run (d := 20) Q0 Q0 ?_
     refine WL.p Q0 (Yl.loadB sca9 Q0 hs Q1 Q0) ?_
     refine WL.run (d := 20) Q0 Q0 ?_
     refine WL.callp hs Q0 (Yc.func Q0 fn237) (c_spec_IsValue _ _ (Ph.old h_r.digest hs)) ?_
     clear hs; intro w hs
     refine WL.run (d := 16) Q0 Q0 ?_
     refine WL.p Q0 (Yl.pickF Q0 Q0) ?_
     refine WL.p Q0 (Yl.pickT Q0 Q0) ?_
     refine Qa ?_
     refine WL.next ?_
     refine WC.ret ?_
     refine fin1' rfl Q0 ?_
     refine RetP.mk hs ?_
     first
      | (rw [← inR_true] at h1; simp_all [TRequest.is]; done)
      | (rw [← inR_false] at h1; simp_all [TRequest.is])
   ·
    refine WL.skip (d := 16) Q0 Q0 Q0 Q0 ?_
    refine WL.skip (d := 16) Q0 Q0 Q0 Q0 ?_
    refine WL.skip (d := 16) Q0 Q0 Q0 Q0 ?_
    refine WL.skip (d := 16) Q0 Q0 Q0 Q0 ?_
    refine WL.skipU (d := 20) Q0 Q0 Q0 ?_
    refine WL.skipU (d := 20) Q0 Q0 Q0 ?_
    refine WL.skipU (d := 20) Q0 Q0 Q0 ?_
    refine WL.skip (d := 16) Q0 Q0 Q0 Q0 ?_
    refine WL.p Q0 (Yl.pickF Q0 Q0) ?_
    refine Qa ?_
    refine WL.next ?_
    refine WC.ret ?_
    refine fin1' rfl Q0 ?_
    refine RetP.mk hs ?_
    first
     | (rw [← inR_true] at h1; simp_all [TRequest.is]; done)
     | (rw [← inR_false] at h1; simp_all [TRequest.is])
  ·
   refine WL.skip (d := 11) Q0 Q0 Q0 Q0 ?_
   refine WL.skip (d := 11) Q0 Q0 Q0 Q0 ?_
   refine WL.skip (d := 11) Q0 Q0 Q0 Q0 ?_
   refine WL.p Q0 (Yl.pickF Q0 Q0) ?_
   refine Qm ?_
   refine WL.skip (d := 16) Q0 Q0 Q0 Q0 ?_
   refine WL.skip (d := 16) Q0 Q0 Q0 Q0 ?_
   refine WL.skip (d := 16) Q0 Q0 Q0 Q0 ?_
   refine WL.skip (d := 16) Q0 Q0 Q0 Q0 ?_
   refine WL.skipU (d := 20) Q0 Q0 Q0 ?_
   refine WL.skipU (d := 20) Q0 Q0 Q0 ?_
   refine WL.skipU (d := 20) Q0 Q0 Q0 ?_
   refine WL.skip (d := 16) Q0 Q0 Q0 Q0 ?_
   refine WL.p Q0 (Yl.pickF Q0 Q0) ?_
   refine Qa ?_
   refine WL.next ?_
   refine WC.ret ?_
   refine fin1' rfl Q0 ?_
   refine RetP.mk hs ?_
   first
    | (rw [← inR_true] at h1; simp_all [TRequest.is]; done)
    | (rw [← inR_false] at h1; simp_all [TRequest.is])
 ·
  replace h1 := inR_false.1 h1
  refine WL.skip (d := 6) Q0 Q0 Q0 Q0 ?_
  refine WL.skip (d := 6) Q0 Q0 Q0 Q0 ?_
  refine WL.skip (d := 6) Q0 Q0 Q0 Q0 ?_
  refine WL.p Q0 (Yl.pickF Q0 Q0) ?_
  refine Qm ?_
  refine WL.skip (d := 11) Q0 Q0 Q0 Q0 ?_
  refine WL.skip (d := 11) Q0 Q0 Q0 Q0 ?_
  refine WL.skip (d := 11) Q0 Q0 Q0 Q0 ?_
  refine WL.p Q0 (Yl.pickF Q0 Q0) ?_
  refine Qm ?_
  refine WL.skip (d := 16) Q0 Q0 Q0 Q0 ?_
  refine WL.skip (d := 16) Q0 Q0 Q0 Q0 ?_
  refine WL.skip (d := 16) Q0 Q0 Q0 Q0 ?_
  refine WL.skip (d := 16) Q0 Q0 Q0 Q0 ?_
  refine WL.skipU (d := 20) Q0 Q0 Q0 ?_
  refine WL.skipU (d := 20) Q0 Q0 Q0 ?_
  refine WL.skipU (d := 20) Q0 Q0 Q0 ?_
  refine WL.skip (d := 16) Q0 Q0 Q0 Q0 ?_
  refine WL.p Q0 (Yl.pickF Q0 Q0) ?_
  refine Qa ?_
  refine WL.next ?_
  refine WC.ret ?_
  refine fin1' rfl Q0 ?_
  refine RetP.mk hs ?_
  first
   | (rw [← inR_true] at h1; simp_all [TRequest.is]; done)
   | (rw [← inR_false] at h1; simp_all [TRequest.is])

theorem c_spec_l9Has (l : (Sl Str)) (s : Str) (w : World) (h_l : Ph.ok w l)  : Calls Tryz.prog 290 [Sl.v l, S s].toArray w (RetP w (Bo (decide (s ∈ l.l)))) := by
 have hw := h_l.lt
 refine enterN 18 Tryz.func290 rfl rfl rfl ?_
 have hs := Sat.start w
 refine WC.seq ?_
 refine Qa ?_
 refine WL.next ?_
 refine WC.seq' ?_
 refine WC.seq ?_
 refine Qa ?_
 refine WL.next ?_
 refine WC.block ?_
 refine WC.loopC (ι := Nat) (fun k => l.l.length - k) (fun k => [(5, I (k : Int))]) (fun _ => []) (fun k => decide (s ∈ l.l) = decide (s ∈ l.l.drop k)) [(0, _), (1, _)] 0 (hs) ⟨by rfl, by rfl, trivial⟩ ⟨by rfl, trivial⟩ ?_ ?_
 ·
  simp
 clear hs; rintro k w hJ hs
 simp only [List.nil_append] at hs
 refine WC.seq' ?_
 refine WC.seq ?_
 refine Qm ?_
 refine Qm ?_
 refine WL.p Q0 (Yl.len_sl slu34 Q0) ?_
 refine WL.p Q0 (Yl.lss Q0 Q0) ?_
 refine WL.next ?_
 refine WC.condS Q0 (fun h1 => ?_) (fun h1 => ?_)
 ·
  replace h1 := of_decide_eq_true h1
  obtain ⟨d, hd⟩ := exists_get (l := l.l) (k := k) Q7
  rw [drop_cons hd] at hJ
  refine WC.skipn ?_
  refine WC.seq' ?_
  refine WC.block ?_
  refine WC.seq ?_
  refine Qm ?_
  refine Qm ?_
  refine WL.p Q0 (Yl.indexAddr slt34 Q0 Q0 (Ph.old h_l hs) Q0 (hd)) ?_
  refine WL.p Q0 (Yl.loadC0 sca9 Q0 (Sl.Ok.at_ (Ph.old h_l hs) (by assumption)).2 Q0) ?_
  refine Qm ?_
  refine WL.p Q0 (Yl.eqs Q0 Q0) ?_
  refine WL.next ?_
  refine WC.condS Q0 (fun h2 => ?_) (fun h2 => ?_)
  ·
   replace h2 := of_decide_eq_true h2
   refine WC.seq ?_
   refine Qa ?_
   refine WL.next ?_
   refine WC.ret ?_
   refine At.blockret ?_
   refine At.thenret ?_
   refine At.thenret ?_
   refine At.blockret ?_
   refine At.thenret ?_
   refine fin1' rfl Q0 ?_
   refine RetP.mk hs ?_
   simp_all
  ·
   replace h2 := of_decide_eq_false h2
   refine WC.skip ?_
   refine At.blocknormal ?_
   refine At.then_ ?_
   refine WC.region ?_
   refine Qm ?_
   refine WL.p Q0 (Yl.add Q0 Q0 Q7) ?_
   refine Qa ?_
   refine WL.nil ?_
   refine At.roundC (k + 1) (hs.only Q2) ⟨by rfl, by rfl, trivial⟩ ⟨by rfl, trivial⟩ ?_ ?_
   ·
    omega
   ·
    rw [hJ]; have := fun h => h2 (Eq.symm h); simp_all
 ·
  replace h1 := of_decide_eq_false h1
  rw [drop_out (l := l.l) Q7] at hJ
  refine WC.exit ?_
  refine At.thenexit ?_
  refine At.thenexit ?_
  refine At.blockexit ?_
  refine At.then_ ?_
  refine WC.seq ?_
  refine Qa ?_
  refine WL.next ?_
  refine WC.ret ?_
  refine fin1' rfl Q0 ?_
  refine RetP.mk hs ?_
  simp_all

theorem c_spec_Allows (p : PPolicy) (kind : Int) (host : Str) (w : World) (h_p : Ph.ok w p)  : Calls Tryz.prog 232 [.agg #[Bo p.set, Sl.v p.scripts, Sl.v p.styles, Sl.v p.images, S p.nonce], I kind, S host].toArray w (RetP w (Bo (p.lg.allows kind host))) := by
 refine enterN 36 Tryz.func232 rfl rfl rfl ?_
 have hs := Sat.start w
 refine WC.seq ?_
 refine WL.r Q0 (Yr.box hs Q0 Q0) ?_
 clear hs; rintro _ w ⟨b1, rfl, hb, hs⟩; clear hb
 refine Qa ?_
 refine WL.next ?_
 refine WC.seq' ?_
 refine WC.block ?_
 refine WC.seq ?_
 refine WL.p Q0 (Yl.fieldAddr fa108_0 Q0) ?_
 refine WL.p Q0 (Yl.loadB sca4 Q0 hs Q1 Q0) ?_
 refine WL.p Q0 (Yl.not Q0) ?_
 refine Qa ?_
 refine WL.next ?_
 refine WC.condS Q0 (fun h1 => ?_) (fun h1 => ?_)
 ·
  replace h1 := not_eq_true h1
  refine WC.seq ?_
  refine Qa ?_
  refine WL.next ?_
  refine WC.ret ?_
  refine At.blockret ?_
  refine At.thenret ?_
  refine fin1' rfl Q0 ?_
  refine RetP.mk hs ?_
  simp_all [TPolicy.allows]
 ·
  replace h1 := not_eq_false h1
  refine WC.seq ?_
  refine Qm ?_
  refine WL.p Q0 (Yl.eqi Q0 Q0) ?_
  refine Qm ?_
  refine WL.split (d := 14) Q0 (fun h2 => ?_) (fun h2 => ?_)
  ·
   replace h2 := of_decide_eq_true h2
   refine WL.skip (d := 14) Q0 Q0 Q0 Q0 ?_
   refine WL.skip (d := 14) Q0 Q0 Q0 Q0 ?_
   refine WL.p Q0 (Yl.pickT Q0 Q0) ?_
   refine Qa ?_
   refine WL.next ?_
   refine WC.condT Q0 ?_
   refine WC.seq ?_
   refine WL.p Q0 (Yl.fieldAddr fa108_1 Q0) ?_
   refine WL.p Q0 (Yl.loadB sca34 Q0 hs Q1 Q0) ?_
   refine Qm ?_
   refine WL.callp hs Q0 (Yc.func Q0 fn290) (c_spec_l9Has _ _ _ (Ph.old h_p.scripts hs)) ?_
   clear hs; intro w hs
   refine Qa ?_
   refine WL.next ?_
   refine WC.ret ?_
   refine At.blockret ?_
   refine At.thenret ?_
   refine fin1' rfl Q0 ?_
   refine RetP.mk hs ?_
   simp_all [TPolicy.allows]
  ·
   replace h2 := of_decide_eq_false h2
   refine WL.run (d := 14) Q0 Q0 ?_
   refine Qm ?_
   refine WL.run (d := 14) Q0 Q0 ?_
   refine WL.p Q0 (Yl.eqi Q0 Q0) ?_
   refine WL.p Q0 (Yl.pickF Q0 Q0) ?_
   refine Qa ?_
   refine WL.next ?_
   refine WC.condS Q0 (fun h3 => ?_) (fun h3 => ?_)
   ·
    replace h3 := of_decide_eq_true h3
    refine WC.seq ?_
    refine WL.p Q0 (Yl.fieldAddr fa108_1 Q0) ?_
    refine WL.p Q0 (Yl.loadB sca34 Q0 hs Q1 Q0) ?_
    refine Qm ?_
    refine WL.callp hs Q0 (Yc.func Q0 fn290) (c_spec_l9Has _ _ _ (Ph.old h_p.scripts hs)) ?_
    clear hs; intro w hs
    refine Qa ?_
    refine WL.next ?_
    refine WC.ret ?_
    refine At.blockret ?_
    refine At.thenret ?_
    refine fin1' rfl Q0 ?_
    refine RetP.mk hs ?_
    simp_all [TPolicy.allows]
   ·
    replace h3 := of_decide_eq_false h3
    refine WC.seq ?_
    refine Qm ?_
    refine WL.p Q0 (Yl.eqi Q0 Q0) ?_
    refine Qa ?_
    refine WL.next ?_
    refine WC.condS Q0 (fun h4 => ?_) (fun h4 => ?_)
    ·
     replace h4 := of_decide_eq_true h4
     refine WC.seq ?_
     refine WL.p Q0 (Yl.fieldAddr fa108_2 Q0) ?_
     refine WL.p Q0 (Yl.loadB sca34 Q0 hs Q1 Q0) ?_
     refine Qm ?_
     refine WL.callp hs Q0 (Yc.func Q0 fn290) (c_spec_l9Has _ _ _ (Ph.old h_p.styles hs)) ?_
     clear hs; intro w hs
     refine Qa ?_
     refine WL.next ?_
     refine WC.ret ?_
     refine At.blockret ?_
     refine At.thenret ?_
     refine fin1' rfl Q0 ?_
     refine RetP.mk hs ?_
     simp_all [TPolicy.allows]
    ·
     replace h4 := of_decide_eq_false h4
     refine WC.seq ?_
     refine Qm ?_
     refine WL.p Q0 (Yl.eqi Q0 Q0) ?_
     refine Qa ?_
     refine WL.next ?_
     refine WC.condS Q0 (fun h5 => ?_) (fun h5 => ?_)
     ·
      replace h5 := of_decide_eq_true h5
      refine WC.seq ?_
      refine WL.p Q0 (Yl.fieldAddr fa108_3 Q0) ?_
      refine WL.p Q0 (Yl.loadB sca34 Q0 hs Q1 Q0) ?_
      refine Qm ?_
      refine WL.callp hs Q0 (Yc.func Q0 fn290) (c_spec_l9Has _ _ _ (Ph.old h_p.images hs)) ?_
      clear hs; intro w hs
      refine Qa ?_
      refine WL.next ?_
      refine WC.ret ?_
      refine At.blockret ?_
      refine At.thenret ?_
      refine fin1' rfl Q0 ?_
      refine RetP.mk hs ?_
      simp_all [TPolicy.allows]
     ·
      replace h5 := of_decide_eq_false h5
      refine WC.skip ?_
      refine At.blocknormal ?_
      refine At.then_ ?_
      refine WC.seq ?_
      refine Qa ?_
      refine WL.next ?_
      refine WC.ret ?_
      refine fin1' rfl Q0 ?_
      refine RetP.mk hs ?_
      simp_all [TPolicy.allows]

theorem c_spec_CheckRequest (p : PPolicy) (r : TRequest) (w : World) (h_p : Ph.ok w p) (h_r : Ph.ok w r)  : Calls Tryz.prog 162 [.agg #[Bo p.set, Sl.v p.scripts, Sl.v p.styles, Sl.v p.images, S p.nonce], .agg #[I r.kind, S r.to.host, S r.to.path, S r.frm, S r.digest]].toArray w (RetP w (I (checkReq p.lg r))) := by
 refine enterN 23 Tryz.func162 rfl rfl rfl ?_
 have hs := Sat.start w
 refine WC.seq ?_
 refine WL.r Q0 (Yr.box hs Q0 Q0) ?_
 clear hs; rintro _ w ⟨b1, rfl, hb, hs⟩; clear hb
 refine WL.r Q0 (Yr.box hs Q0 Q0) ?_
 clear hs; rintro _ w ⟨b2, rfl, hb, hs⟩; clear hb
 refine Qa ?_
 refine WL.next ?_
 refine WC.seq' ?_
 refine WC.seq ?_
 refine WL.p Q0 (Yl.loadAB agg110 Q0 hs Q1 Q0 Q0) ?_
 refine WL.callp hs Q0 (Yc.func Q0 fn170) (c_spec_IsRequest _ _ (Ph.old h_r hs)) ?_
 clear hs; intro w hs
 refine WL.p Q0 (Yl.not Q0) ?_
 refine Qm ?_
 refine WL.split (d := 8) Q0 (fun h1 => ?_) (fun h1 => ?_)
 ·
  replace h1 := not_eq_true h1
  refine WL.skip (d := 8) Q0 Q0 Q0 Q0 ?_
  refine WL.skip (d := 8) Q0 Q0 Q0 Q0 ?_
  refine WL.skip (d := 8) Q0 Q0 Q0 Q0 ?_
  refine WL.skip (d := 8) Q0 Q0 Q0 Q0 ?_
  refine WL.skipU (d := 12) Q0 Q0 Q0 ?_
  refine WL.skipU (d := 12) Q0 Q0 Q0 ?_
  refine WL.skipU (d := 12) Q0 Q0 Q0 ?_
  refine WL.skipU (d := 12) Q0 Q0 Q0 ?_
  refine WL.skipU (d := 12) Q0 Q0 Q0 ?_
  refine WL.skipU (d := 12) Q0 Q0 Q0 ?_
  refine WL.skipU (d := 12) Q0 Q0 Q0 ?_
  refine WL.skipU (d := 12) Q0 Q0 Q0 ?_
  refine WL.skip (d := 8) Q0 Q0 Q0 Q0 ?_
  refine WL.p Q0 (Yl.pickT Q0 Q0) ?_
  refine WL.next ?_
  refine WC.condT Q0 ?_
  refine WC.seq ?_
  refine Qa ?_
  refine WL.next ?_
  refine WC.ret ?_
  refine At.thenret ?_
  refine fin1' rfl Q0 ?_
  refine RetP.mk hs ?_
  simp_all [checkReq]
 ·
  replace h1 := not_eq_false h1
  refine WL.run (d := 8) Q0 Q0 ?_
  refine WL.p Q0 (Yl.fieldAddr fa110_0 Q0) ?_
  refine WL.run (d := 8) Q0 Q0 ?_
  refine WL.p Q0 (Yl.loadB sca3 Q0 hs Q1 Q0) ?_
  refine WL.run (d := 8) Q0 Q0 ?_
  refine WL.p Q0 (Yl.nei Q0 Q0) ?_
  refine WL.run (d := 8) Q0 Q0 ?_
  refine Qm ?_
  refine WL.split (d := 12) Q0 (fun h2 => ?_) (fun h2 => ?_)
  ·
   replace h2 := not_eq_true h2
   replace h2 := of_decide_eq_false h2
   refine WL.run (d := 12) Q0 Q0 ?_
   refine WL.p Q0 (Yl.loadAB agg108 Q0 hs Q1 Q0 Q0) ?_
   refine WL.run (d := 12) Q0 Q0 ?_
   refine WL.p Q0 (Yl.fieldAddr fa110_0 Q0) ?_
   refine WL.run (d := 12) Q0 Q0 ?_
   refine WL.p Q0 (Yl.loadB sca3 Q0 hs Q1 Q0) ?_
   refine WL.run (d := 12) Q0 Q0 ?_
   refine WL.p Q0 (Yl.fieldAddr fa110_1 Q0) ?_
   refine WL.run (d := 12) Q0 Q0 ?_
   refine WL.p Q0 (Yl.fieldAddr fa39_0 Q0) ?_
   refine WL.run (d := 12) Q0 Q0 ?_
   refine WL.p Q0 (Yl.loadB sca9 Q0 hs Q1 Q0) ?_
   refine WL.run (d := 12) Q0 Q0 ?_
   refine WL.callp hs Q0 (Yc.func Q0 fn232) (c_spec_Allows _ _ _ _ (Ph.old h_p hs)) ?_
   clear hs; intro w hs
   refine WL.run (d := 12) Q0 Q0 ?_
   refine WL.p Q0 (Yl.not Q0) ?_
   refine WL.run (d := 8) Q0 Q0 ?_
   refine WL.p Q0 (Yl.pickT Q0 Q0) ?_
   refine WL.p Q0 (Yl.pickF Q0 Q0) ?_
   refine WL.next ?_
   refine WC.condS Q0 (fun h3 => ?_) (fun h3 => ?_)
   ·
    replace h3 := not_eq_true h3
    refine WC.seq ?_
    refine Qa ?_
    refine WL.next ?_
    refine WC.ret ?_
    refine At.thenret ?_
    refine fin1' rfl Q0 ?_
    refine RetP.mk hs ?_
    simp_all [checkReq]
   ·
    replace h3 := not_eq_false h3
    refine WC.skipn ?_
    refine WC.seq ?_
    refine Qa ?_
    refine WL.next ?_
    refine WC.ret ?_
    refine fin1' rfl Q0 ?_
    refine RetP.mk hs ?_
    simp_all [checkReq]
  ·
   replace h2 := not_eq_false h2
   replace h2 := of_decide_eq_true h2
   refine WL.skip (d := 12) Q0 Q0 Q0 Q0 ?_
   refine WL.skip (d := 12) Q0 Q0 Q0 Q0 ?_
   refine WL.skip (d := 12) Q0 Q0 Q0 Q0 ?_
   refine WL.skip (d := 12) Q0 Q0 Q0 Q0 ?_
   refine WL.skip (d := 12) Q0 Q0 Q0 Q0 ?_
   refine WL.skip (d := 12) Q0 Q0 Q0 Q0 ?_
   refine WL.skip (d := 12) Q0 Q0 Q0 Q0 ?_
   refine WL.skip (d := 12) Q0 Q0 Q0 Q0 ?_
   refine WL.run (d := 8) Q0 Q0 ?_
   refine WL.p Q0 (Yl.pickF Q0 Q0) ?_
   refine WL.p Q0 (Yl.pickF Q0 Q0) ?_
   refine WL.next ?_
   refine WC.condF Q0 ?_
   refine WC.skipn ?_
   refine WC.seq ?_
   refine Qa ?_
   refine WL.next ?_
   refine WC.ret ?_
   refine fin1' rfl Q0 ?_
   refine RetP.mk hs ?_
   simp_all [checkReq]

theorem c_spec_l5Split (s : Str) (b : UInt8) (w : World)  (hb : s.length ≤ 2097152) : Calls Tryz.prog 109 [S s, U8 b].toArray w (Ret w (fun v w' => ∃ x : Sl Str, v = x.v ∧ x.l = splitC b s ∧ Fresh w x w')) := by
 refine enterN 36 Tryz.func109 rfl rfl rfl ?_
 have hs := Sat.start w
 refine WC.seq ?_
 refine Qa ?_
 refine WL.next ?_
 refine WC.seq ?_
 refine WL.r Q0 (Yr.buildSlice hs sll34 Q0 Q0 Q0 Q4 Q0) ?_
 clear hs; rintro _ w ⟨b1, rfl, hb, hs⟩; clear hb
 refine Qa ?_
 refine WL.next ?_
 refine WC.seq ?_
 refine Qa ?_
 refine WL.next ?_
 refine WC.seq' ?_
 refine WC.seq ?_
 refine Qa ?_
 refine WL.next ?_
 refine WC.block ?_
 replace hs := Sat.boxow (l := ([] : List Str)) hs rfl rfl (by simp) (ownL_mk_flat (by simp))
 refine WC.loopC (ι := Nat × Nat × Sl Str × List Nat) (fun ⟨k, f, q, F⟩ => s.length + 1 - k) (fun ⟨k, f, q, F⟩ => [(7, I (k : Int)), (6, I (f : Int)), (5, q.v)]) (fun ⟨k, f, q, F⟩ => [ow q F]) (fun ⟨k, f, q, F⟩ => (k ≤ s.length ∧ f ≤ k ∧ splitC b s = q.l ++ preH ((s.drop f).take (k - f)) (splitC b (s.drop k))) ∨ (k = s.length + 1 ∧ splitC b s = q.l)) [(0, _), (1, _), (4, _)] (0, 0, ⟨[], some ⟨b1, 0, none⟩, 0⟩, [b1]) (hs.sel (D := [ow (⟨[], some ⟨b1, 0, none⟩, 0⟩ : Sl Str) [b1]]) Q2) ⟨by rfl, by rfl, by rfl, trivial⟩ ⟨by rfl, by rfl, by rfl, trivial⟩ ?_ ?_
 ·
  exact .inl ⟨Nat.zero_le _, Nat.le_refl _, by simp [preH_nil]⟩
 clear hs; rintro ⟨k, f, q, F⟩ w hJ hs
 simp only [List.cons_append, List.nil_append] at hs
 refine WC.seq' ?_
 refine WC.seq ?_
 refine Qm ?_
 refine Qm ?_
 refine WL.p Q0 (Yl.len_str str9 Q0) ?_
 refine WL.p Q0 (Yl.leq Q0 Q0) ?_
 refine WL.next ?_
 refine WC.condS Q0 (fun h1 => ?_) (fun h1 => ?_)
 ·
  replace h1 := of_decide_eq_true h1
  obtain ⟨hJ1, hJ2, hJ3⟩ : k ≤ s.length ∧ f ≤ k ∧ splitC b s = q.l ++ preH ((s.drop f).take (k - f)) (splitC b (s.drop k)) := by
   rcases hJ with h | h
   · exact h
   · omega
  have hlq : q.l.length ≤ s.length + 1 := by
   have e1 := congrArg List.length hJ3
   have e2 := splitC_len b s
   simp only [List.length_append] at e1
   omega
  refine WC.skipn ?_
  refine WC.seq' ?_
  refine WC.block ?_
  refine WC.seq ?_
  refine Qm ?_
  refine Qm ?_
  refine WL.p Q0 (Yl.len_str str9 Q0) ?_
  refine WL.p Q0 (Yl.eqi Q0 Q0) ?_
  refine Qm ?_
  refine WL.split (d := 19) Q0 (fun h2 => ?_) (fun h2 => ?_)
  ·
   replace h2 := of_decide_eq_true h2
   refine WL.skip (d := 19) Q0 Q0 Q0 Q0 ?_
   refine WL.skip (d := 19) Q0 Q0 Q0 Q0 ?_
   refine WL.skip (d := 19) Q0 Q0 Q0 Q0 ?_
   refine WL.skip (d := 19) Q0 Q0 Q0 Q0 ?_
   refine WL.skip (d := 19) Q0 Q0 Q0 Q0 ?_
   refine WL.p Q0 (Yl.pickT Q0 Q0) ?_
   refine WL.next ?_
   refine WC.condT Q0 ?_
   refine WC.seq ?_
   refine Qm ?_
   refine Qm ?_
   refine Qm ?_
   refine Qm ?_
   refine WL.p Q0 (Yl.slice_str str9 Q0 (by exact ⟨_, by rfl⟩) (by exact ⟨_, by rfl⟩) Q7 Q7) ?_
   refine WL.r Q0 (Yr.buildSlice hs sll34 Q0 Q0 Q0 Q4 Q0) ?_
   clear hs; rintro _ w ⟨b2, rfl, hb, hs⟩; clear hb
   refine WL.r Q0 (Yr.append (s := q) (F := F) hs elt34 Q2 Q0 Q0 rfl (xs := [(s.drop f).take (k - f)]) (hs.box_cells Q1) (by intro x hx; obtain rfl := List.mem_singleton.1 hx; show WfS _; unfold WfS; simp only [List.length_take, List.length_drop]; omega) (by simp; unfold maxLen; omega) (by simp; omega)) ?_
   clear hs; rintro _ w ⟨s3, F3, rfl, hl3, hs⟩
   refine Qa ?_
   refine WL.next ?_
   refine WC.region ?_
   refine Qm ?_
   refine WL.p Q0 (Yl.add Q0 Q0 Q7) ?_
   refine Qa ?_
   refine WL.nil ?_
   refine At.blocknormal ?_
   refine At.then_ ?_
   refine WC.region ?_
   refine Qm ?_
   refine WL.p Q0 (Yl.add Q0 Q0 Q7) ?_
   refine Qa ?_
   refine WL.nil ?_
   refine At.roundC (k + 1, k + 1, s3, F3) (hs.only Q2) ⟨by rfl, by rfl, by rfl, trivial⟩ ⟨by rfl, by rfl, by rfl, trivial⟩ ?_ ?_
   ·
    show s.length + 1 - (k + 1) < s.length + 1 - k
    omega
   ·
    refine .inr ⟨by omega, ?_⟩
    rw [hl3, hJ3]
    obtain rfl : k = s.length := by omega
    rw [List.drop_length, preH_end]
  ·
   replace h2 := of_decide_eq_false h2
   refine WL.run (d := 19) Q0 Q0 ?_
   refine Qm ?_
   refine WL.run (d := 19) Q0 Q0 ?_
   refine Qm ?_
   refine WL.run (d := 19) Q0 Q0 ?_
   refine WL.p Q0 (Yl.index str9 Q0 Q0 Q0 (by first | assumption | exact List.getElem?_eq_getElem Q7)) ?_
   refine WL.run (d := 19) Q0 Q0 ?_
   refine Qm ?_
   refine WL.run (d := 19) Q0 Q0 ?_
   refine WL.p Q0 (Yl.eqi Q0 Q0) ?_
   refine WL.p Q0 (Yl.pickF Q0 Q0) ?_
   refine WL.next ?_
   refine WC.condS Q0 (fun h3 => ?_) (fun h3 => ?_)
   ·
    replace h3 := of_decide_eq_true h3
    refine WC.seq ?_
    refine Qm ?_
    refine Qm ?_
    refine Qm ?_
    refine Qm ?_
    refine WL.p Q0 (Yl.slice_str str9 Q0 (by exact ⟨_, by rfl⟩) (by exact ⟨_, by rfl⟩) Q7 Q7) ?_
    refine WL.r Q0 (Yr.buildSlice hs sll34 Q0 Q0 Q0 Q4 Q0) ?_
    clear hs; rintro _ w ⟨b4, rfl, hb, hs⟩; clear hb
    refine WL.r Q0 (Yr.append (s := q) (F := F) hs elt34 Q2 Q0 Q0 rfl (xs := [(s.drop f).take (k - f)]) (hs.box_cells Q1) (by intro x hx; obtain rfl := List.mem_singleton.1 hx; show WfS _; unfold WfS; simp only [List.length_take, List.length_drop]; omega) (by simp; unfold maxLen; omega) (by simp; omega)) ?_
    clear hs; rintro _ w ⟨s5, F5, rfl, hl5, hs⟩
    refine Qa ?_
    refine WL.next ?_
    refine WC.region ?_
    refine Qm ?_
    refine WL.p Q0 (Yl.add Q0 Q0 Q7) ?_
    refine Qa ?_
    refine WL.nil ?_
    refine At.blocknormal ?_
    refine At.then_ ?_
    refine WC.region ?_
    refine Qm ?_
    refine WL.p Q0 (Yl.add Q0 Q0 Q7) ?_
    refine Qa ?_
    refine WL.nil ?_
    refine At.roundC (k + 1, k + 1, s5, F5) (hs.only Q2) ⟨by rfl, by rfl, by rfl, trivial⟩ ⟨by rfl, by rfl, by rfl, trivial⟩ ?_ ?_
    ·
     show s.length + 1 - (k + 1) < s.length + 1 - k
     omega
    ·
     have hc := List.drop_eq_getElem_cons (l := s) (i := k) Q7
     have hcb : s[k] = b := by apply UInt8.toNat_inj.1; omega
     refine .inl ⟨by omega, Nat.le_refl _, ?_⟩
     rw [hl5, hJ3, hc, hcb, preH_cut, Nat.sub_self, List.take_zero, preH_nil]; simp
   ·
    replace h3 := of_decide_eq_false h3
    refine WC.skip ?_
    refine At.blocknormal ?_
    refine At.then_ ?_
    refine WC.region ?_
    refine Qm ?_
    refine WL.p Q0 (Yl.add Q0 Q0 Q7) ?_
    refine Qa ?_
    refine WL.nil ?_
    refine At.roundC (k + 1, f, q, F) (hs.only Q2) ⟨by rfl, by rfl, by rfl, trivial⟩ ⟨by rfl, by rfl, by rfl, trivial⟩ ?_ ?_
    ·
     show s.length + 1 - (k + 1) < s.length + 1 - k
     omega
    ·
     have hc := List.drop_eq_getElem_cons (l := s) (i := k) Q7
     have hcb : s[k] ≠ b := by intro h; apply h3; rw [h]
     refine .inl ⟨by omega, by omega, ?_⟩
     have e : (s.drop f).take (k + 1 - f) = (s.drop f).take (k - f) ++ [s[k]] := by
      rw [show k + 1 - f = (k - f) + 1 from by omega, List.take_add_one, List.getElem?_drop, show f + (k - f) = k from by omega, List.getElem?_eq_getElem Q7]; rfl
     rw [e, hJ3, hc, preH_step hcb]
 ·
  replace h1 := of_decide_eq_false h1
  refine WC.exit ?_
  refine At.thenexit ?_
  refine At.thenexit ?_
  refine At.blockexit ?_
  refine At.then_ ?_
  refine WC.seq ?_
  refine Qm ?_
  refine Qa ?_
  refine WL.next ?_
  refine WC.ret ?_
  refine fin1' rfl Q0 ?_
  refine Ret.mk hs ?_
  rcases hJ with h | ⟨_, h⟩
  · omega
  · exact ⟨q, rfl, h.symm, hs.fresh Q1⟩

end Go.Sw
