/- Walks: what each function of the program returns, for every input. Printed by gen.py. -/
import Derived.Test.YtoffmddkjddioaaDoorW1
set_option linter.all false
namespace Go.Sw
open Go Go.RowKit Go.Proofs

theorem c_laws_FnExactAreServers (aL : (Sl PServer)) (w : World) (h_aL : Ph.ok w aL) (hm_ : ∃ m, w.cell? ⟨0, 0, none⟩ = some (.int .i64 m)) : Calls Tryd.prog 8 [Sl.v aL].toArray w (RetP w (Bo true)) := by
  refine enterN 27 Tryd.func8 rfl rfl rfl ?_
  have hs := Sat.start w
  refine WC.seq ?_
  refine WL.p (by rfl) (Yl.assign (by rfl)) ?_
  refine WL.next ?_
  refine WC.seq ?_
  refine WL.p (by rfl) (Yl.assign (by rfl)) ?_
  refine WL.next ?_
  refine WC.seq ?_
  refine WL.p (by rfl) (Yl.move (by rfl)) ?_
  refine WL.p (by rfl) (Yl.move (by rfl)) ?_
  refine WL.callp hs (by rfl) (Yc.func (by rfl) fn35) (c_laws_szServerS _ _ _ (Ph.old h_aL hs) (by first | assumption | omega | (simp only [lsz] at *; omega) | (simp only [lsz, strsz, TPolicy.size, TCache.size, TAddr.size, TRequest.size, TEntry.size, TResponse.size, TLine.size] at *; omega) | (simp only [lsz_map, TPage.size, TBuilder.size, TNode.size, TToken.size, TTokenizer.size, TServer.size, TFile.size, TNet.size, TCache.size, TSheet.size, strsz] at *; omega) | (simp only [lsz_map, TPage.size, TBuilder.size, TNode.size, TToken.size, TTokenizer.size, TServer.size, TFile.size, TNet.size, TCache.size, TSheet.size, strsz, lsz] at *; omega)) (by first | assumption | omega | (simp only [lsz] at *; omega) | (simp only [lsz, strsz, TPolicy.size, TCache.size, TAddr.size, TRequest.size, TEntry.size, TResponse.size, TLine.size] at *; omega) | (simp only [lsz_map, TPage.size, TBuilder.size, TNode.size, TToken.size, TTokenizer.size, TServer.size, TFile.size, TNet.size, TCache.size, TSheet.size, strsz] at *; omega) | (simp only [lsz_map, TPage.size, TBuilder.size, TNode.size, TToken.size, TTokenizer.size, TServer.size, TFile.size, TNet.size, TCache.size, TSheet.size, strsz, lsz] at *; omega))) ?_
  clear hs; intro w hs
  refine WL.p (by rfl) (Yl.assign (by rfl)) ?_
  refine WL.next ?_
  refine WC.seq' ?_
  refine WC.seq ?_
  refine WL.p (by rfl) (Yl.move (by rfl)) ?_
  refine WL.p (by rfl) (Yl.lss (by rfl) (by rfl)) ?_
  refine WL.next ?_
  refine WC.condS (by rfl) (fun h1 => ?_) (fun h1 => ?_)
  ·
    replace h1 := lessN_neg (of_decide_eq_true h1)
    refine WC.seq ?_
    refine WL.p (by rfl) (Yl.assign (by rfl)) ?_
    refine WL.next ?_
    refine WC.ret ?_
    refine At.thenret ?_
    refine fin1' rfl (by rfl) ?_
    refine RetP.mk hs ?_
    simp_all
  ·
    replace h1 := lessN_nn (by omega) (of_decide_eq_false h1)
    refine WC.skipn ?_
    refine WC.seq ?_
    refine WL.p (by rfl) (Yl.move (by rfl)) ?_
    refine WL.call hs (by rfl) (Yc.func (by rfl) fn37) (c_laws_toServerS _ _ (Ph.old h_aL hs) (by first | assumption | omega | (simp only [lsz] at *; omega) | (simp only [lsz, strsz, TPolicy.size, TCache.size, TAddr.size, TRequest.size, TEntry.size, TResponse.size, TLine.size] at *; omega) | (simp only [lsz_map, TPage.size, TBuilder.size, TNode.size, TToken.size, TTokenizer.size, TServer.size, TFile.size, TNet.size, TCache.size, TSheet.size, strsz] at *; omega) | (simp only [lsz_map, TPage.size, TBuilder.size, TNode.size, TToken.size, TTokenizer.size, TServer.size, TFile.size, TNet.size, TCache.size, TSheet.size, strsz, lsz] at *; omega))) ?_
    have hs0 := hs; clear hs; intro v w hb hR hs; clear hs
    obtain ⟨x1, rfl, hx1, hf1⟩ := hR
    obtain ⟨F1, hs⟩ := hf1.sat hs0 hb; clear hs0 hf1
    have hle1 := Sl.Ok.le (hs.okow (x := x1) (F := F1) (by repeat (first | exact List.mem_cons_self | apply List.mem_cons_of_mem)))
    refine WL.callp hs (by rfl) (Yc.func (by rfl) fn36) (c_spec_AreServers _ _ (hs.okow (x := x1) (F := F1) (by repeat (first | exact List.mem_cons_self | apply List.mem_cons_of_mem))) (by first | (rw [hx1, lsz_map]; omega) | (rw [hx2, lsz_map]; omega) | (rw [hx3, lsz_map]; omega) | (rw [hx4, lsz_map]; omega) | (rw [hx5, lsz_map]; omega) | (rw [hx6, lsz_map]; omega) | (rw [hx7, lsz_map]; omega) | (rw [hx8, lsz_map]; omega) | (rw [hx9, lsz_map]; omega) | (rw [hx10, lsz_map]; omega) | (rw [hx11, lsz_map]; omega) | (rw [hx12, lsz_map]; omega) | (rw [hx13, lsz_map]; omega) | (rw [hx14, lsz_map]; omega) | (rw [hx15, lsz_map]; omega) | (rw [hx16, lsz_map]; omega) | (rw [hx17, lsz_map]; omega) | (rw [hx18, lsz_map]; omega) | (rw [hx19, lsz_map]; omega) | (rw [hx20, lsz_map]; omega) | (rw [hx21, lsz_map]; omega) | (rw [hx22, lsz_map]; omega) | (rw [hx23, lsz_map]; omega) | (rw [hx24, lsz_map]; omega) | (rw [hx25, lsz_map]; omega) | (rw [hx26, lsz_map]; omega) | (rw [hx27, lsz_map]; omega) | (rw [hx28, lsz_map]; omega) | (rw [hx29, lsz_map]; omega) | (rw [hx30, lsz_map]; omega) | (rw [hx31, lsz_map]; omega) | (rw [hx32, lsz_map]; omega) | (rw [hx33, lsz_map]; omega) | (rw [hx34, lsz_map]; omega) | (rw [hx35, lsz_map]; omega) | (rw [hx36, lsz_map]; omega) | (rw [hx37, lsz_map]; omega) | (rw [hx38, lsz_map]; omega) | (rw [hx39, lsz_map]; omega) | (rw [hx40, lsz_map]; omega) | (rw [hx41, lsz_map]; omega) | (rw [hx42, lsz_map]; omega) | (rw [hx43, lsz_map]; omega) | (rw [hx44, lsz_map]; omega) | (rw [hx45, lsz_map]; omega) | (rw [hx46, lsz_map]; omega) | (rw [hx47, lsz_map]; omega) | (rw [hx48, lsz_map]; omega) | (rw [hx49, lsz_map]; omega) | (rw [hx50, lsz_map]; omega) | (rw [hx51, lsz_map]; omega) | (rw [hx52, lsz_map]; omega) | (rw [hx53, lsz_map]; omega) | (rw [hx54, lsz_map]; omega) | (rw [hx55, lsz_map]; omega) | (rw [hx56, lsz_map]; omega) | (rw [hx57, lsz_map]; omega) | (rw [hx58, lsz_map]; omega) | (rw [hx59, lsz_map]; omega))) ?_
    clear hs; intro w hs
    refine WL.p (by rfl) (Yl.assign (by rfl)) ?_
    refine WL.next ?_
    refine WC.seq ?_
    refine WL.p (by rfl) (Yl.move (by rfl)) ?_
    refine WL.call hs (by rfl) (Yc.func (by rfl) fn37) (c_laws_toServerS _ _ (Ph.old h_aL hs) (by first | assumption | omega | (simp only [lsz] at *; omega) | (simp only [lsz, strsz, TPolicy.size, TCache.size, TAddr.size, TRequest.size, TEntry.size, TResponse.size, TLine.size] at *; omega) | (simp only [lsz_map, TPage.size, TBuilder.size, TNode.size, TToken.size, TTokenizer.size, TServer.size, TFile.size, TNet.size, TCache.size, TSheet.size, strsz] at *; omega) | (simp only [lsz_map, TPage.size, TBuilder.size, TNode.size, TToken.size, TTokenizer.size, TServer.size, TFile.size, TNet.size, TCache.size, TSheet.size, strsz, lsz] at *; omega))) ?_
    have hs0 := hs; clear hs; intro v w hb hR hs; clear hs
    obtain ⟨x2, rfl, hx2, hf2⟩ := hR
    obtain ⟨F2, hs⟩ := hf2.sat hs0 hb; clear hs0 hf2
    have hle2 := Sl.Ok.le (hs.okow (x := x2) (F := F2) (by repeat (first | exact List.mem_cons_self | apply List.mem_cons_of_mem)))
    refine WL.p (by rfl) (Yl.assign (by rfl)) ?_
    refine WL.next ?_
    refine WC.seq ?_
    refine WL.p (by rfl) (Yl.move (by rfl)) ?_
    refine WL.callp hs (by rfl) (Yc.func (by rfl) fn38) (c_impl_AreServers _ _ (hs.okow (x := x2) (F := F2) (by repeat (first | exact List.mem_cons_self | apply List.mem_cons_of_mem))) (by first | (rw [hx1, lsz_map]; omega) | (rw [hx2, lsz_map]; omega) | (rw [hx3, lsz_map]; omega) | (rw [hx4, lsz_map]; omega) | (rw [hx5, lsz_map]; omega) | (rw [hx6, lsz_map]; omega) | (rw [hx7, lsz_map]; omega) | (rw [hx8, lsz_map]; omega) | (rw [hx9, lsz_map]; omega) | (rw [hx10, lsz_map]; omega) | (rw [hx11, lsz_map]; omega) | (rw [hx12, lsz_map]; omega) | (rw [hx13, lsz_map]; omega) | (rw [hx14, lsz_map]; omega) | (rw [hx15, lsz_map]; omega) | (rw [hx16, lsz_map]; omega) | (rw [hx17, lsz_map]; omega) | (rw [hx18, lsz_map]; omega) | (rw [hx19, lsz_map]; omega) | (rw [hx20, lsz_map]; omega) | (rw [hx21, lsz_map]; omega) | (rw [hx22, lsz_map]; omega) | (rw [hx23, lsz_map]; omega) | (rw [hx24, lsz_map]; omega) | (rw [hx25, lsz_map]; omega) | (rw [hx26, lsz_map]; omega) | (rw [hx27, lsz_map]; omega) | (rw [hx28, lsz_map]; omega) | (rw [hx29, lsz_map]; omega) | (rw [hx30, lsz_map]; omega) | (rw [hx31, lsz_map]; omega) | (rw [hx32, lsz_map]; omega) | (rw [hx33, lsz_map]; omega) | (rw [hx34, lsz_map]; omega) | (rw [hx35, lsz_map]; omega) | (rw [hx36, lsz_map]; omega) | (rw [hx37, lsz_map]; omega) | (rw [hx38, lsz_map]; omega) | (rw [hx39, lsz_map]; omega) | (rw [hx40, lsz_map]; omega) | (rw [hx41, lsz_map]; omega) | (rw [hx42, lsz_map]; omega) | (rw [hx43, lsz_map]; omega) | (rw [hx44, lsz_map]; omega) | (rw [hx45, lsz_map]; omega) | (rw [hx46, lsz_map]; omega) | (rw [hx47, lsz_map]; omega) | (rw [hx48, lsz_map]; omega) | (rw [hx49, lsz_map]; omega) | (rw [hx50, lsz_map]; omega) | (rw [hx51, lsz_map]; omega) | (rw [hx52, lsz_map]; omega) | (rw [hx53, lsz_map]; omega) | (rw [hx54, lsz_map]; omega) | (rw [hx55, lsz_map]; omega) | (rw [hx56, lsz_map]; omega) | (rw [hx57, lsz_map]; omega) | (rw [hx58, lsz_map]; omega) | (rw [hx59, lsz_map]; omega)) (by first | assumption | exact Sat.cellm hs (by assumption))) ?_
    clear hs; intro w hs
    refine WL.p (by rfl) (Yl.assign (by rfl)) ?_
    refine WL.next ?_
    refine WC.seq' ?_
    refine WC.seq ?_
    refine WL.p (by rfl) (Yl.move (by rfl)) ?_
    refine WL.p (by rfl) (Yl.move (by rfl)) ?_
    refine WL.p (by rfl) (Yl.neb bool4 (by rfl) (by rfl)) ?_
    refine WL.next ?_
    refine WC.condS (by rfl) (fun h2 => ?_) (fun h2 => ?_)
    ·
      replace h2 := not_eq_true h2
      replace h2 := beq_false h2
      refine WC.seq ?_
      refine WL.p (by rfl) (Yl.assign (by rfl)) ?_
      refine WL.next ?_
      refine WC.ret ?_
      refine At.thenret ?_
      refine fin1' rfl (by rfl) ?_
      refine RetP.mk hs ?_
      try simp only [hx1, hx2] at h1
      try simp only [hx1, hx2] at h2
      all_goals (first | (simp only [hx1, hx2]; done) | (exfalso; omega) | simp_all)
    ·
      replace h2 := not_eq_false h2
      replace h2 := beq_true h2
      refine WC.skipn ?_
      refine WC.seq' ?_
      refine WC.seq ?_
      refine WL.p (by rfl) (Yl.move (by rfl)) ?_
      refine WL.p (by rfl) (Yl.move (by rfl)) ?_
      refine WL.call hs (by rfl) (Yc.func (by rfl) fn37) (c_laws_toServerS _ _ (Ph.old h_aL hs) (by first | assumption | omega | (simp only [lsz] at *; omega) | (simp only [lsz, strsz, TPolicy.size, TCache.size, TAddr.size, TRequest.size, TEntry.size, TResponse.size, TLine.size] at *; omega) | (simp only [lsz_map, TPage.size, TBuilder.size, TNode.size, TToken.size, TTokenizer.size, TServer.size, TFile.size, TNet.size, TCache.size, TSheet.size, strsz] at *; omega) | (simp only [lsz_map, TPage.size, TBuilder.size, TNode.size, TToken.size, TTokenizer.size, TServer.size, TFile.size, TNet.size, TCache.size, TSheet.size, strsz, lsz] at *; omega))) ?_
      have hs0 := hs; clear hs; intro v w hb hR hs; clear hs
      obtain ⟨x3, rfl, hx3, hf3⟩ := hR
      obtain ⟨F3, hs⟩ := hf3.sat hs0 hb; clear hs0 hf3
      have hle3 := Sl.Ok.le (hs.okow (x := x3) (F := F3) (by repeat (first | exact List.mem_cons_self | apply List.mem_cons_of_mem)))
      refine WL.callp hs (by rfl) (Yc.func (by rfl) fn39) (c_laws_eqServerS _ _ _ (hs.okow (x := x2) (F := F2) (by repeat (first | exact List.mem_cons_self | apply List.mem_cons_of_mem))) (hs.okow (x := x3) (F := F3) (by repeat (first | exact List.mem_cons_self | apply List.mem_cons_of_mem)))) ?_
      clear hs; intro w hs
      refine WL.p (by rfl) (Yl.not (by rfl)) ?_
      refine WL.next ?_
      refine WC.condS (by rfl) (fun h3 => ?_) (fun h3 => ?_)
      ·
        replace h3 := not_eq_true h3
        replace h3 := of_decide_eq_false h3
        refine WC.seq ?_
        refine WL.p (by rfl) (Yl.assign (by rfl)) ?_
        refine WL.next ?_
        refine WC.ret ?_
        refine At.thenret ?_
        refine fin1' rfl (by rfl) ?_
        refine RetP.mk hs ?_
        try simp only [hx1, hx2, hx3] at h1
        try simp only [hx1, hx2, hx3] at h2
        try simp only [hx1, hx2, hx3] at h3
        all_goals (first | (simp only [hx1, hx2, hx3]; done) | (exfalso; omega) | simp_all)
      ·
        replace h3 := not_eq_false h3
        replace h3 := of_decide_eq_true h3
        refine WC.skipn ?_
        refine WC.seq ?_
        refine WL.p (by rfl) (Yl.assign (by rfl)) ?_
        refine WL.next ?_
        refine WC.ret ?_
        refine fin1' rfl (by rfl) ?_
        refine RetP.mk hs ?_
        try simp only [hx1, hx2, hx3] at h1
        try simp only [hx1, hx2, hx3] at h2
        try simp only [hx1, hx2, hx3] at h3
        all_goals (first | (simp only [hx1, hx2, hx3]; done) | (exfalso; omega) | simp_all)

end Go.Sw
