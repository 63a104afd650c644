/- Walks: what each function of the program returns, for every input. Printed by gen.py. -/
import Derived.Test.YtppjnohcfljmoaaGreatDoorW3
set_option linter.all false
namespace Go.Sw
open Go Go.RowKit Go.Proofs

theorem c_laws_FnExactWaitNet (aN : PNet) (aTicks : Int) (w : World) (h_aN : Ph.ok w aN) (h_aTicks : Ph.ok w aTicks) (hm_ : ∃ m, w.cell? ⟨1, 0, none⟩ = some (.int .i64 m)) : Calls Tryz.prog 10 [.agg #[Sl.v aN.servers, Sl.v aN.cache.entries, Sl.v aN.log, I aN.now], I aTicks].toArray w (RetP w (Bo true)) := by
  refine enterN 74 Tryz.func10 rfl rfl rfl ?_
  have hs := Sat.start w
  refine WC.seq ?_
  refine WL.r (by rfl) (Yr.box hs (by rfl) (by rfl)) ?_
  clear hs; rintro _ w ⟨b1, rfl, hb, hs⟩; clear hb
  refine WL.p (by rfl) (Yl.assign (by rfl)) ?_
  refine WL.next ?_
  refine WC.seq ?_
  refine WL.p (by rfl) (Yl.assign (by rfl)) ?_
  refine WL.next ?_
  refine WC.seq ?_
  refine WL.p (by rfl) (Yl.loadAB agg28 (by rfl) hs (by repeat (first | exact List.mem_cons_self | apply List.mem_cons_of_mem)) (by rfl) (by rfl)) ?_
  refine WL.p (by rfl) (Yl.move (by rfl)) ?_
  refine WL.callp hs (by rfl) (Yc.func (by rfl) fn11) (c_laws_szNet _ _ _ (Ph.old h_aN hs) (by first | assumption | omega | (simp only [lsz] at *; omega) | (simp only [lsz, strsz, TPolicy.size, TCache.size, TAddr.size, TRequest.size, TEntry.size, TResponse.size, TLine.size] at *; omega) | (simp only [lsz_map, TPage.size, TBuilder.size, TNode.size, TToken.size, TTokenizer.size, TServer.size, TFile.size, TNet.size, TCache.size, TSheet.size, strsz] at *; omega) | (simp only [lsz_map, TPage.size, TBuilder.size, TNode.size, TToken.size, TTokenizer.size, TServer.size, TFile.size, TNet.size, TCache.size, TSheet.size, strsz, lsz] at *; omega)) (by first | assumption | omega | (simp only [lsz] at *; omega) | (simp only [lsz, strsz, TPolicy.size, TCache.size, TAddr.size, TRequest.size, TEntry.size, TResponse.size, TLine.size] at *; omega) | (simp only [lsz_map, TPage.size, TBuilder.size, TNode.size, TToken.size, TTokenizer.size, TServer.size, TFile.size, TNet.size, TCache.size, TSheet.size, strsz] at *; omega) | (simp only [lsz_map, TPage.size, TBuilder.size, TNode.size, TToken.size, TTokenizer.size, TServer.size, TFile.size, TNet.size, TCache.size, TSheet.size, strsz, lsz] at *; omega))) ?_
  clear hs; intro w hs
  refine WL.p (by rfl) (Yl.assign (by rfl)) ?_
  refine WL.next ?_
  refine WC.seq' ?_
  refine WC.seq ?_
  refine WL.p (by rfl) (Yl.move (by rfl)) ?_
  refine WL.p (by rfl) (Yl.lss (by rfl) (by rfl)) ?_
  refine WL.next ?_
  refine WC.condS (by rfl) (fun h1 => ?_) (fun h1 => ?_)
  ·
    replace h1 := lessN_neg (of_decide_eq_true h1)
    refine WC.seq ?_
    refine WL.p (by rfl) (Yl.assign (by rfl)) ?_
    refine WL.next ?_
    refine WC.ret ?_
    refine At.thenret ?_
    refine fin1' rfl (by rfl) ?_
    refine RetP.mk hs ?_
    simp_all
  ·
    replace h1 := lessN_nn (by omega) (of_decide_eq_false h1)
    refine WC.skipn ?_
    refine WC.seq ?_
    refine WL.p (by rfl) (Yl.loadAB agg28 (by rfl) hs (by repeat (first | exact List.mem_cons_self | apply List.mem_cons_of_mem)) (by rfl) (by rfl)) ?_
    refine WL.call hs (by rfl) (Yc.func (by rfl) fn14) (c_laws_toNet _ _ (Ph.old h_aN hs) (by first | assumption | omega | (simp only [lsz] at *; omega) | (simp only [lsz, strsz, TPolicy.size, TCache.size, TAddr.size, TRequest.size, TEntry.size, TResponse.size, TLine.size] at *; omega) | (simp only [lsz_map, TPage.size, TBuilder.size, TNode.size, TToken.size, TTokenizer.size, TServer.size, TFile.size, TNet.size, TCache.size, TSheet.size, strsz] at *; omega) | (simp only [lsz_map, TPage.size, TBuilder.size, TNode.size, TToken.size, TTokenizer.size, TServer.size, TFile.size, TNet.size, TCache.size, TSheet.size, strsz, lsz] at *; omega))) ?_
    have hs0 := hs; clear hs; intro v w hb hR hs; clear hs
    obtain ⟨x2, rfl, hx2, hf2⟩ := hR
    obtain ⟨F2, hs⟩ := hf2.sat hs0 hb; clear hs0 hf2
    refine WL.p (by rfl) (Yl.move (by rfl)) ?_
    refine WL.call hs (by rfl) (Yc.func (by rfl) fn58) (c_spec_WaitNet _ _ _ (hs.okow (x := x2) (F := F2) (by repeat (first | exact List.mem_cons_self | apply List.mem_cons_of_mem))) (Ph.old h_aTicks hs) (by rw [hx2]; simp only [TNet.size, lsz] at *; omega) (by rw [hx2]; simp only [TNet.size, lsz] at *; omega) (by have e9 := congrArg (fun z => z.log.length) hx2; simp only [PNet.lg] at e9; simp only [TNet.size, lsz, PNet.lg] at *; omega)) ?_
    have hs0 := hs; clear hs; intro v w hb hR hs; clear hs
    obtain ⟨x3, rfl, hx3, hf3⟩ := hR
    obtain ⟨F3, hs⟩ := hf3.sat hs0 hb; clear hs0 hf3
    refine WL.r (by rfl) (Yr.alloc hs zt39) ?_
    clear hs; rintro _ w ⟨b4, rfl, hb, hs⟩; clear hb
    refine WL.s (Yr.storeB hs (by rfl) (by rfl) (by rfl) (by repeat (first | exact Repl.here | apply Repl.there)) (by repeat (first | (apply SetAt.here; repeat (first | exact Over.nil | apply Over.cons)) | apply SetAt.there)) (by rfl) (by exact szf39)) ?_
    clear hs; rintro _ w hs
    refine WL.next ?_
    refine WC.seq ?_
    refine WL.p (by rfl) (Yl.loadAB agg28 (by rfl) hs (by repeat (first | exact List.mem_cons_self | apply List.mem_cons_of_mem)) (by rfl) (by rfl)) ?_
    refine WL.call hs (by rfl) (Yc.func (by rfl) fn14) (c_laws_toNet _ _ (Ph.old h_aN hs) (by first | assumption | omega | (simp only [lsz] at *; omega) | (simp only [lsz, strsz, TPolicy.size, TCache.size, TAddr.size, TRequest.size, TEntry.size, TResponse.size, TLine.size] at *; omega) | (simp only [lsz_map, TPage.size, TBuilder.size, TNode.size, TToken.size, TTokenizer.size, TServer.size, TFile.size, TNet.size, TCache.size, TSheet.size, strsz] at *; omega) | (simp only [lsz_map, TPage.size, TBuilder.size, TNode.size, TToken.size, TTokenizer.size, TServer.size, TFile.size, TNet.size, TCache.size, TSheet.size, strsz, lsz] at *; omega))) ?_
    have hs0 := hs; clear hs; intro v w hb hR hs; clear hs
    obtain ⟨x5, rfl, hx5, hf5⟩ := hR
    obtain ⟨F5, hs⟩ := hf5.sat hs0 hb; clear hs0 hf5
    refine WL.r (by rfl) (Yr.alloc hs zt39) ?_
    clear hs; rintro _ w ⟨b6, rfl, hb, hs⟩; clear hb
    refine WL.s (Yr.storeB hs (by rfl) (by rfl) (by rfl) (by repeat (first | exact Repl.here | apply Repl.there)) (by repeat (first | (apply SetAt.here; repeat (first | exact Over.nil | apply Over.cons)) | apply SetAt.there)) (by rfl) (by exact szf39)) ?_
    clear hs; rintro _ w hs
    refine WL.next ?_
    refine WC.seq ?_
    refine WL.p (by rfl) (Yl.loadAB agg39 (by rfl) hs (by repeat (first | exact List.mem_cons_self | apply List.mem_cons_of_mem)) (by rfl) (by rfl)) ?_
    refine WL.p (by rfl) (Yl.move (by rfl)) ?_
    refine WL.call hs (by rfl) (Yc.func (by rfl) fn59) (c_impl_WaitNet _ _ _ (hs.okow (x := x5) (F := F5) (by repeat (first | exact List.mem_cons_self | apply List.mem_cons_of_mem))) (Ph.old h_aTicks hs) (by rw [hx5]; simp only [TNet.size, lsz] at *; omega) (by rw [hx5]; simp only [TNet.size, lsz] at *; omega) (by have e9 := congrArg (fun z => z.log.length) hx5; simp only [PNet.lg] at e9; simp only [TNet.size, lsz, PNet.lg] at *; omega) (by first | assumption | exact Sat.cellm hs (by assumption))) ?_
    have hs0 := hs; clear hs; intro v w hb hR hs; clear hs
    obtain ⟨x7, rfl, hx7, hf7⟩ := hR
    obtain ⟨F7, hs⟩ := hf7.sat hs0 hb; clear hs0 hf7
    refine WL.r (by rfl) (Yr.alloc hs zt39) ?_
    clear hs; rintro _ w ⟨b8, rfl, hb, hs⟩; clear hb
    refine WL.s (Yr.storeB hs (by rfl) (by rfl) (by rfl) (by repeat (first | exact Repl.here | apply Repl.there)) (by repeat (first | (apply SetAt.here; repeat (first | exact Over.nil | apply Over.cons)) | apply SetAt.there)) (by rfl) (by exact szf39)) ?_
    clear hs; rintro _ w hs
    refine WL.next ?_
    refine WC.seq' ?_
    refine WC.seq ?_
    refine WL.p (by rfl) (Yl.loadAB agg39 (by rfl) hs (by repeat (first | exact List.mem_cons_self | apply List.mem_cons_of_mem)) (by rfl) (by rfl)) ?_
    refine WL.p (by rfl) (Yl.loadAB agg39 (by rfl) hs (by repeat (first | exact List.mem_cons_self | apply List.mem_cons_of_mem)) (by rfl) (by rfl)) ?_
    refine WL.callp hs (by rfl) (Yc.func (by rfl) fn17) (c_laws_eqNet _ _ _ (hs.okow (x := x7) (F := F7) (by repeat (first | exact List.mem_cons_self | apply List.mem_cons_of_mem))) (hs.okow (x := x3) (F := F3) (by repeat (first | exact List.mem_cons_self | apply List.mem_cons_of_mem)))) ?_
    clear hs; intro w hs
    refine WL.p (by rfl) (Yl.not (by rfl)) ?_
    refine WL.next ?_
    refine WC.condS (by rfl) (fun h2 => ?_) (fun h2 => ?_)
    ·
      replace h2 := not_eq_true h2
      replace h2 := of_decide_eq_false h2
      refine WC.seq ?_
      refine WL.p (by rfl) (Yl.assign (by rfl)) ?_
      refine WL.next ?_
      refine WC.ret ?_
      refine At.thenret ?_
      refine fin1' rfl (by rfl) ?_
      refine RetP.mk hs ?_
      try simp only [hx2, hx3, hx5, hx7] at h1
      try simp only [hx2, hx3, hx5, hx7] at h2
      all_goals (first | (simp only [hx2, hx3, hx5, hx7]; done) | (exfalso; omega) | simp_all)
    ·
      replace h2 := not_eq_false h2
      replace h2 := of_decide_eq_true h2
      refine WC.skipn ?_
      refine WC.seq' ?_
      refine WC.anyn mixed hs ?_
      clear hs; intro w hs
      refine WA.p (i := 0) (by rfl) (by kernel_rfl) (by kernel_rfl) (by kernel_rfl) (by rfl) (hs.only (by repeat (first | exact Sel.nil | (apply Sel.cons; (repeat (first | exact Ext.here | apply Ext.there)))))) (fun w hs => Yl.loadAB agg39 (by rfl) hs (by repeat (first | exact List.mem_cons_self | apply List.mem_cons_of_mem)) (by rfl) (by rfl)) ?_
      refine WA.p (i := 1) (by rfl) (by kernel_rfl) (by kernel_rfl) (by kernel_rfl) (by rfl) (hs.only (by repeat (first | exact Sel.nil | (apply Sel.cons; (repeat (first | exact Ext.here | apply Ext.there)))))) (fun w hs => Yl.loadAB agg28 (by rfl) hs (by repeat (first | exact List.mem_cons_self | apply List.mem_cons_of_mem)) (by rfl) (by rfl)) ?_
      refine WA.call2 (i := 2) hs (fun _ hs => hs.only (by repeat (first | exact Sel.nil | (apply Sel.cons; (repeat (first | exact Ext.here | apply Ext.there)))))) (by kernel_rfl) (by rfl) (by rfl) (Yc.func (by rfl) fn14) (c_laws_toNet _ _ (Ph.old h_aN hs) (by first | assumption | omega | (simp only [lsz] at *; omega) | (simp only [lsz, strsz, TPolicy.size, TCache.size, TAddr.size, TRequest.size, TEntry.size, TResponse.size, TLine.size] at *; omega) | (simp only [lsz_map, TPage.size, TBuilder.size, TNode.size, TToken.size, TTokenizer.size, TServer.size, TFile.size, TNet.size, TCache.size, TSheet.size, strsz] at *; omega) | (simp only [lsz_map, TPage.size, TBuilder.size, TNode.size, TToken.size, TTokenizer.size, TServer.size, TFile.size, TNet.size, TCache.size, TSheet.size, strsz, lsz] at *; omega))) ?_
      have hs0 := hs; clear hs; intro v w hb hR hs; clear hs
      obtain ⟨x9, rfl, hx9, hf9⟩ := hR
      obtain ⟨F9, hs⟩ := hf9.sat hs0 hb; clear hs0 hf9
      refine WA.callp2 (i := 3) hs (fun _ hs => hs.only (by repeat (first | exact Sel.nil | (apply Sel.cons; (repeat (first | exact Ext.here | apply Ext.there)))))) (by kernel_rfl) (by rfl) (by rfl) (Yc.func (by rfl) fn17) (c_laws_eqNet _ _ _ (hs.okow (x := x5) (F := F5) (by repeat (first | exact List.mem_cons_self | apply List.mem_cons_of_mem))) (hs.okow (x := x9) (F := F9) (by repeat (first | exact List.mem_cons_self | apply List.mem_cons_of_mem)))) ?_
      clear hs; intro w hs
      refine WA.p (i := 4) (by rfl) (by kernel_rfl) (by kernel_rfl) (by kernel_rfl) (by rfl) (hs.only (by repeat (first | exact Sel.nil | (apply Sel.cons; (repeat (first | exact Ext.here | apply Ext.there)))))) (fun w hs => Yl.not (by rfl)) ?_
      refine WA.donen (by kernel_rfl) ?_
      refine WC.condS (by rfl) (fun h3 => ?_) (fun h3 => ?_)
      ·
        replace h3 := not_eq_true h3
        replace h3 := of_decide_eq_false h3
        refine WC.seq ?_
        refine WL.p (by rfl) (Yl.assign (by rfl)) ?_
        refine WL.next ?_
        refine WC.ret ?_
        refine At.thenret ?_
        refine fin1' rfl (by rfl) ?_
        refine RetP.mk hs ?_
        try simp only [hx2, hx3, hx5, hx7, hx9] at h1
        try simp only [hx2, hx3, hx5, hx7, hx9] at h2
        try simp only [hx2, hx3, hx5, hx7, hx9] at h3
        all_goals (first | (simp only [hx2, hx3, hx5, hx7, hx9]; done) | (exfalso; omega) | simp_all)
      ·
        replace h3 := not_eq_false h3
        replace h3 := of_decide_eq_true h3
        refine WC.skipn ?_
        refine WC.seq ?_
        refine WL.p (by rfl) (Yl.assign (by rfl)) ?_
        refine WL.next ?_
        refine WC.seq ?_
        refine WL.p (by rfl) (Yl.loadAB agg39 (by rfl) hs (by repeat (first | exact List.mem_cons_self | apply List.mem_cons_of_mem)) (by rfl) (by rfl)) ?_
        refine WL.p (by rfl) (Yl.move (by rfl)) ?_
        refine WL.callm (a := x5) (F := F5) hs (by repeat (first | exact Sel.nil | (apply Sel.cons; (repeat (first | exact Ext.here | apply Ext.there))))) (by rfl) (Yc.func (by rfl) fn19) (c_laws_markNet x5 _ _ F5 (own_of hs (by repeat (first | exact List.mem_cons_self | apply List.mem_cons_of_mem))) (nodup_of hs (by repeat (first | exact List.mem_cons_self | apply List.mem_cons_of_mem))) (by first | assumption | omega | (simp only [lsz] at *; omega) | (simp only [lsz, strsz, TPolicy.size, TCache.size, TAddr.size, TRequest.size, TEntry.size, TResponse.size, TLine.size] at *; omega) | (simp only [lsz_map, TPage.size, TBuilder.size, TNode.size, TToken.size, TTokenizer.size, TServer.size, TFile.size, TNet.size, TCache.size, TSheet.size, strsz] at *; omega) | (simp only [lsz_map, TPage.size, TBuilder.size, TNode.size, TToken.size, TTokenizer.size, TServer.size, TFile.size, TNet.size, TCache.size, TSheet.size, strsz, lsz] at *; omega)) (by first | omega | (try simp only [hx2, hx3, hx5, hx7, hx9]); (have := costoNet_le aN.lg; have := costWait_le aN.lg aTicks; omega))) ?_
        clear hs; intro a10 F10 w he10 hq10 hs
        refine WL.p (by rfl) (Yl.assign (by rfl)) ?_
        refine WL.next ?_
        refine WC.seq' ?_
        refine WC.seq ?_
        refine WL.p (by rfl) (Yl.move (by rfl)) ?_
        refine WL.p (by rfl) (Yl.lss (by rfl) (by rfl)) ?_
        refine WL.p (by rfl) (Yl.move (by rfl)) ?_
        refine WL.split (d := 41) (by rfl) (fun h4 => ?_) (fun h4 => ?_)
        ·
          replace h4 := of_decide_eq_true h4
          refine WL.skip (d := 41) (by rfl) (by rfl) (by rfl) (by rfl) ?_
          refine WL.skip (d := 41) (by rfl) (by rfl) (by rfl) (by rfl) ?_
          refine WL.skip (d := 41) (by rfl) (by rfl) (by rfl) (by rfl) ?_
          refine WL.skip (d := 41) (by rfl) (by rfl) (by rfl) (by rfl) ?_
          refine WL.p (by rfl) (Yl.pickT (by rfl) (by rfl)) ?_
          refine WL.next ?_
          refine WC.condT (by rfl) ?_
          refine WC.seq ?_
          refine WL.p (by rfl) (Yl.assign (by rfl)) ?_
          refine WL.next ?_
          refine WC.ret ?_
          refine At.thenret ?_
          refine fin1' rfl (by rfl) ?_
          refine RetP.mk hs ?_
          try simp only [hx2, hx3, hx5, hx7, hx9, hq10] at h1
          try simp only [hx2, hx3, hx5, hx7, hx9, hq10] at h2
          try simp only [hx2, hx3, hx5, hx7, hx9, hq10] at h3
          try simp only [hx2, hx3, hx5, hx7, hx9, hq10] at h4
          all_goals (first | (simp only [hx2, hx3, hx5, hx7, hx9, hq10]; done) | (exfalso; omega) | simp_all)
        ·
          replace h4 := of_decide_eq_false h4
          refine WL.run (d := 41) (by rfl) (by rfl) ?_
          refine WL.p (by rfl) (Yl.loadAB agg39 (by rfl) hs (by repeat (first | exact List.mem_cons_self | apply List.mem_cons_of_mem)) (by rfl) (by rfl)) ?_
          refine WL.run (d := 41) (by rfl) (by rfl) ?_
          refine WL.p (by rfl) (Yl.loadAB agg39 (by rfl) hs (by repeat (first | exact List.mem_cons_self | apply List.mem_cons_of_mem)) (by rfl) (by rfl)) ?_
          refine WL.run (d := 41) (by rfl) (by rfl) ?_
          refine WL.callp hs (by rfl) (Yc.func (by rfl) fn17) (c_laws_eqNet _ _ _ (hs.okow (x := x7) (F := F7) (by repeat (first | exact List.mem_cons_self | apply List.mem_cons_of_mem))) (hs.okow (x := x3) (F := F3) (by repeat (first | exact List.mem_cons_self | apply List.mem_cons_of_mem)))) ?_
          clear hs; intro w hs
          refine WL.run (d := 41) (by rfl) (by rfl) ?_
          refine WL.p (by rfl) (Yl.not (by rfl)) ?_
          refine WL.p (by rfl) (Yl.pickF (by rfl) (by rfl)) ?_
          refine WL.next ?_
          refine WC.condS (by rfl) (fun h5 => ?_) (fun h5 => ?_)
          ·
            replace h5 := not_eq_true h5
            replace h5 := of_decide_eq_false h5
            refine WC.seq ?_
            refine WL.p (by rfl) (Yl.assign (by rfl)) ?_
            refine WL.next ?_
            refine WC.ret ?_
            refine At.thenret ?_
            refine fin1' rfl (by rfl) ?_
            refine RetP.mk hs ?_
            try simp only [hx2, hx3, hx5, hx7, hx9, hq10] at h1
            try simp only [hx2, hx3, hx5, hx7, hx9, hq10] at h2
            try simp only [hx2, hx3, hx5, hx7, hx9, hq10] at h3
            try simp only [hx2, hx3, hx5, hx7, hx9, hq10] at h4
            try simp only [hx2, hx3, hx5, hx7, hx9, hq10] at h5
            all_goals (first | (simp only [hx2, hx3, hx5, hx7, hx9, hq10]; done) | (exfalso; omega) | simp_all)
          ·
            replace h5 := not_eq_false h5
            replace h5 := of_decide_eq_true h5
            refine WC.skipn ?_
            refine WC.seq ?_
            refine WL.p (by rfl) (Yl.assign (by rfl)) ?_
            refine WL.next ?_
            refine WC.seq ?_
            refine WL.p (by rfl) (Yl.loadAB agg39 (by rfl) hs (by repeat (first | exact List.mem_cons_self | apply List.mem_cons_of_mem)) (by rfl) (by rfl)) ?_
            refine WL.p (by rfl) (Yl.move (by rfl)) ?_
            refine WL.callm (a := x7) (F := F7) hs (by repeat (first | exact Sel.nil | (apply Sel.cons; (repeat (first | exact Ext.here | apply Ext.there))))) (by rfl) (Yc.func (by rfl) fn19) (c_laws_markNet x7 _ _ F7 (own_of hs (by repeat (first | exact List.mem_cons_self | apply List.mem_cons_of_mem))) (nodup_of hs (by repeat (first | exact List.mem_cons_self | apply List.mem_cons_of_mem))) (by first | assumption | omega | (simp only [lsz] at *; omega) | (simp only [lsz, strsz, TPolicy.size, TCache.size, TAddr.size, TRequest.size, TEntry.size, TResponse.size, TLine.size] at *; omega) | (simp only [lsz_map, TPage.size, TBuilder.size, TNode.size, TToken.size, TTokenizer.size, TServer.size, TFile.size, TNet.size, TCache.size, TSheet.size, strsz] at *; omega) | (simp only [lsz_map, TPage.size, TBuilder.size, TNode.size, TToken.size, TTokenizer.size, TServer.size, TFile.size, TNet.size, TCache.size, TSheet.size, strsz, lsz] at *; omega)) (by first | omega | (try simp only [hx2, hx3, hx5, hx7, hx9]); (have := costoNet_le aN.lg; have := costWait_le aN.lg aTicks; omega))) ?_
            clear hs; intro a11 F11 w he11 hq11 hs
            refine WL.p (by rfl) (Yl.assign (by rfl)) ?_
            refine WL.next ?_
            refine WC.seq ?_
            refine WL.p (by rfl) (Yl.assign (by rfl)) ?_
            refine WL.next ?_
            refine WC.seq ?_
            refine WL.p (by rfl) (Yl.loadAB agg39 (by rfl) hs (by repeat (first | exact List.mem_cons_self | apply List.mem_cons_of_mem)) (by rfl) (by rfl)) ?_
            refine WL.p (by rfl) (Yl.move (by rfl)) ?_
            refine WL.callp hs (by rfl) (Yc.func (by rfl) fn20) (calls_conv (congrArg (fun z => ([z, _] : List Value).toArray) (show (.agg #[Sl.v a11.servers, Sl.v a11.cache.entries, Sl.v a11.log, I a11.now] : Value) = .agg #[Sl.v x7.servers, Sl.v x7.cache.entries, Sl.v x7.log, I x7.now] from congrArg (fun l => Value.agg l.toArray) he11)) (c_laws_heldNet a11 _ x7.lg _ (hs.okow (x := a11) (F := F11) (by repeat (first | exact List.mem_cons_self | apply List.mem_cons_of_mem))) (by first | assumption | omega | (simp only [lsz] at *; omega) | (simp only [lsz, strsz, TPolicy.size, TCache.size, TAddr.size, TRequest.size, TEntry.size, TResponse.size, TLine.size] at *; omega) | (simp only [lsz_map, TPage.size, TBuilder.size, TNode.size, TToken.size, TTokenizer.size, TServer.size, TFile.size, TNet.size, TCache.size, TSheet.size, strsz] at *; omega) | (simp only [lsz_map, TPage.size, TBuilder.size, TNode.size, TToken.size, TTokenizer.size, TServer.size, TFile.size, TNet.size, TCache.size, TSheet.size, strsz, lsz] at *; omega)) (by first | omega | (try simp only [hx2, hx3, hx5, hx7, hx9]); (have := costoNet_le aN.lg; have := costWait_le aN.lg aTicks; omega)) (by exact hq11))) ?_
            clear hs; intro w hs
            refine WL.p (by rfl) (Yl.assign (by rfl)) ?_
            refine WL.next ?_
            refine WC.seq' ?_
            refine WC.seq ?_
            refine WL.p (by rfl) (Yl.move (by rfl)) ?_
            refine WL.p (by rfl) (Yl.lss (by rfl) (by rfl)) ?_
            refine WL.next ?_
            refine WC.condS (by rfl) (fun h6 => ?_) (fun h6 => ?_)
            ·
              replace h6 := of_decide_eq_true h6
              refine WC.seq ?_
              refine WL.p (by rfl) (Yl.assign (by rfl)) ?_
              refine WL.next ?_
              refine WC.ret ?_
              refine At.thenret ?_
              refine fin1' rfl (by rfl) ?_
              refine RetP.mk hs ?_
              try simp only [hx2, hx3, hx5, hx7, hx9, hq10, hq11] at h1
              try simp only [hx2, hx3, hx5, hx7, hx9, hq10, hq11] at h2
              try simp only [hx2, hx3, hx5, hx7, hx9, hq10, hq11] at h3
              try simp only [hx2, hx3, hx5, hx7, hx9, hq10, hq11] at h4
              try simp only [hx2, hx3, hx5, hx7, hx9, hq10, hq11] at h5
              try simp only [hx2, hx3, hx5, hx7, hx9, hq10, hq11] at h6
              all_goals (first | (simp only [hx2, hx3, hx5, hx7, hx9, hq10, hq11]; done) | (exfalso; omega) | simp_all)
            ·
              replace h6 := of_decide_eq_false h6
              refine WC.skipn ?_
              refine WC.seq' ?_
              refine WC.seq ?_
              refine WL.p (by rfl) (Yl.move (by rfl)) ?_
              refine WL.p (by rfl) (Yl.move (by rfl)) ?_
              refine WL.p (by rfl) (Yl.nei (by rfl) (by rfl)) ?_
              refine WL.next ?_
              refine WC.condS (by rfl) (fun h7 => ?_) (fun h7 => ?_)
              ·
                replace h7 := not_eq_true h7
                replace h7 := of_decide_eq_false h7
                refine WC.seq ?_
                refine WL.p (by rfl) (Yl.assign (by rfl)) ?_
                refine WL.next ?_
                refine WC.ret ?_
                refine At.thenret ?_
                refine fin1' rfl (by rfl) ?_
                refine RetP.mk hs ?_
                try simp only [hx2, hx3, hx5, hx7, hx9, hq10, hq11] at h1
                try simp only [hx2, hx3, hx5, hx7, hx9, hq10, hq11] at h2
                try simp only [hx2, hx3, hx5, hx7, hx9, hq10, hq11] at h3
                try simp only [hx2, hx3, hx5, hx7, hx9, hq10, hq11] at h4
                try simp only [hx2, hx3, hx5, hx7, hx9, hq10, hq11] at h5
                try simp only [hx2, hx3, hx5, hx7, hx9, hq10, hq11] at h6
                try simp only [hx2, hx3, hx5, hx7, hx9, hq10, hq11] at h7
                all_goals (first | (simp only [hx2, hx3, hx5, hx7, hx9, hq10, hq11]; done) | (exfalso; omega) | simp_all)
              ·
                replace h7 := not_eq_false h7
                replace h7 := of_decide_eq_true h7
                refine WC.skipn ?_
                refine WC.seq ?_
                refine WL.p (by rfl) (Yl.loadAB agg28 (by rfl) hs (by repeat (first | exact List.mem_cons_self | apply List.mem_cons_of_mem)) (by rfl) (by rfl)) ?_
                refine WL.call hs (by rfl) (Yc.func (by rfl) fn14) (c_laws_toNet _ _ (Ph.old h_aN hs) (by first | assumption | omega | (simp only [lsz] at *; omega) | (simp only [lsz, strsz, TPolicy.size, TCache.size, TAddr.size, TRequest.size, TEntry.size, TResponse.size, TLine.size] at *; omega) | (simp only [lsz_map, TPage.size, TBuilder.size, TNode.size, TToken.size, TTokenizer.size, TServer.size, TFile.size, TNet.size, TCache.size, TSheet.size, strsz] at *; omega) | (simp only [lsz_map, TPage.size, TBuilder.size, TNode.size, TToken.size, TTokenizer.size, TServer.size, TFile.size, TNet.size, TCache.size, TSheet.size, strsz, lsz] at *; omega))) ?_
                have hs0 := hs; clear hs; intro v w hb hR hs; clear hs
                obtain ⟨x12, rfl, hx12, hf12⟩ := hR
                obtain ⟨F12, hs⟩ := hf12.sat hs0 hb; clear hs0 hf12
                refine WL.p (by rfl) (Yl.move (by rfl)) ?_
                refine WL.call hs (by rfl) (Yc.func (by rfl) fn59) (c_impl_WaitNet _ _ _ (hs.okow (x := x12) (F := F12) (by repeat (first | exact List.mem_cons_self | apply List.mem_cons_of_mem))) (Ph.old h_aTicks hs) (by rw [hx12]; simp only [TNet.size, lsz] at *; omega) (by rw [hx12]; simp only [TNet.size, lsz] at *; omega) (by have e9 := congrArg (fun z => z.log.length) hx12; simp only [PNet.lg] at e9; simp only [TNet.size, lsz, PNet.lg] at *; omega) (by first | assumption | exact Sat.cellm hs (by assumption))) ?_
                have hs0 := hs; clear hs; intro v w hb hR hs; clear hs
                obtain ⟨x13, rfl, hx13, hf13⟩ := hR
                obtain ⟨F13, hs⟩ := hf13.sat hs0 hb; clear hs0 hf13
                refine WL.r (by rfl) (Yr.alloc hs zt39) ?_
                clear hs; rintro _ w ⟨b14, rfl, hb, hs⟩; clear hb
                refine WL.s (Yr.storeB hs (by rfl) (by rfl) (by rfl) (by repeat (first | exact Repl.here | apply Repl.there)) (by repeat (first | (apply SetAt.here; repeat (first | exact Over.nil | apply Over.cons)) | apply SetAt.there)) (by rfl) (by exact szf39)) ?_
                clear hs; rintro _ w hs
                refine WL.next ?_
                refine WC.seq' ?_
                refine WC.seq ?_
                refine WL.p (by rfl) (Yl.loadAB agg39 (by rfl) hs (by repeat (first | exact List.mem_cons_self | apply List.mem_cons_of_mem)) (by rfl) (by rfl)) ?_
                refine WL.p (by rfl) (Yl.loadAB agg39 (by rfl) hs (by repeat (first | exact List.mem_cons_self | apply List.mem_cons_of_mem)) (by rfl) (by rfl)) ?_
                refine WL.callp hs (by rfl) (Yc.func (by rfl) fn17) (c_laws_eqNet _ _ _ (hs.okow (x := x13) (F := F13) (by repeat (first | exact List.mem_cons_self | apply List.mem_cons_of_mem))) (hs.okow (x := x3) (F := F3) (by repeat (first | exact List.mem_cons_self | apply List.mem_cons_of_mem)))) ?_
                clear hs; intro w hs
                refine WL.p (by rfl) (Yl.not (by rfl)) ?_
                refine WL.next ?_
                refine WC.condS (by rfl) (fun h8 => ?_) (fun h8 => ?_)
                ·
                  replace h8 := not_eq_true h8
                  replace h8 := of_decide_eq_false h8
                  refine WC.seq ?_
                  refine WL.p (by rfl) (Yl.assign (by rfl)) ?_
                  refine WL.next ?_
                  refine WC.ret ?_
                  refine At.thenret ?_
                  refine fin1' rfl (by rfl) ?_
                  refine RetP.mk hs ?_
                  try simp only [hx2, hx3, hx5, hx7, hx9, hq10, hq11, hx12, hx13] at h1
                  try simp only [hx2, hx3, hx5, hx7, hx9, hq10, hq11, hx12, hx13] at h2
                  try simp only [hx2, hx3, hx5, hx7, hx9, hq10, hq11, hx12, hx13] at h3
                  try simp only [hx2, hx3, hx5, hx7, hx9, hq10, hq11, hx12, hx13] at h4
                  try simp only [hx2, hx3, hx5, hx7, hx9, hq10, hq11, hx12, hx13] at h5
                  try simp only [hx2, hx3, hx5, hx7, hx9, hq10, hq11, hx12, hx13] at h6
                  try simp only [hx2, hx3, hx5, hx7, hx9, hq10, hq11, hx12, hx13] at h7
                  try simp only [hx2, hx3, hx5, hx7, hx9, hq10, hq11, hx12, hx13] at h8
                  all_goals (first | (simp only [hx2, hx3, hx5, hx7, hx9, hq10, hq11, hx12, hx13]; done) | (exfalso; omega) | simp_all)
                ·
                  replace h8 := not_eq_false h8
                  replace h8 := of_decide_eq_true h8
                  refine WC.skipn ?_
                  refine WC.seq ?_
                  refine WL.p (by rfl) (Yl.assign (by rfl)) ?_
                  refine WL.next ?_
                  refine WC.seq ?_
                  refine WL.p (by rfl) (Yl.loadAB agg39 (by rfl) hs (by repeat (first | exact List.mem_cons_self | apply List.mem_cons_of_mem)) (by rfl) (by rfl)) ?_
                  refine WL.p (by rfl) (Yl.move (by rfl)) ?_
                  refine WL.callp hs (by rfl) (Yc.func (by rfl) fn20) (calls_conv (congrArg (fun z => ([z, _] : List Value).toArray) (show (.agg #[Sl.v a11.servers, Sl.v a11.cache.entries, Sl.v a11.log, I a11.now] : Value) = .agg #[Sl.v x7.servers, Sl.v x7.cache.entries, Sl.v x7.log, I x7.now] from congrArg (fun l => Value.agg l.toArray) he11)) (c_laws_heldNet a11 _ x7.lg _ (hs.okow (x := a11) (F := F11) (by repeat (first | exact List.mem_cons_self | apply List.mem_cons_of_mem))) (by first | assumption | omega | (simp only [lsz] at *; omega) | (simp only [lsz, strsz, TPolicy.size, TCache.size, TAddr.size, TRequest.size, TEntry.size, TResponse.size, TLine.size] at *; omega) | (simp only [lsz_map, TPage.size, TBuilder.size, TNode.size, TToken.size, TTokenizer.size, TServer.size, TFile.size, TNet.size, TCache.size, TSheet.size, strsz] at *; omega) | (simp only [lsz_map, TPage.size, TBuilder.size, TNode.size, TToken.size, TTokenizer.size, TServer.size, TFile.size, TNet.size, TCache.size, TSheet.size, strsz, lsz] at *; omega)) (by first | omega | (try simp only [hx2, hx3, hx5, hx7, hx9, hx12, hx13]); (have := costoNet_le aN.lg; have := costWait_le aN.lg aTicks; omega)) (by exact hq11))) ?_
                  clear hs; intro w hs
                  refine WL.p (by rfl) (Yl.assign (by rfl)) ?_
                  refine WL.next ?_
                  refine WC.seq' ?_
                  refine WC.seq ?_
                  refine WL.p (by rfl) (Yl.move (by rfl)) ?_
                  refine WL.p (by rfl) (Yl.lss (by rfl) (by rfl)) ?_
                  refine WL.next ?_
                  refine WC.condS (by rfl) (fun h9 => ?_) (fun h9 => ?_)
                  ·
                    replace h9 := of_decide_eq_true h9
                    refine WC.seq ?_
                    refine WL.p (by rfl) (Yl.assign (by rfl)) ?_
                    refine WL.next ?_
                    refine WC.ret ?_
                    refine At.thenret ?_
                    refine fin1' rfl (by rfl) ?_
                    refine RetP.mk hs ?_
                    try simp only [hx2, hx3, hx5, hx7, hx9, hq10, hq11, hx12, hx13] at h1
                    try simp only [hx2, hx3, hx5, hx7, hx9, hq10, hq11, hx12, hx13] at h2
                    try simp only [hx2, hx3, hx5, hx7, hx9, hq10, hq11, hx12, hx13] at h3
                    try simp only [hx2, hx3, hx5, hx7, hx9, hq10, hq11, hx12, hx13] at h4
                    try simp only [hx2, hx3, hx5, hx7, hx9, hq10, hq11, hx12, hx13] at h5
                    try simp only [hx2, hx3, hx5, hx7, hx9, hq10, hq11, hx12, hx13] at h6
                    try simp only [hx2, hx3, hx5, hx7, hx9, hq10, hq11, hx12, hx13] at h7
                    try simp only [hx2, hx3, hx5, hx7, hx9, hq10, hq11, hx12, hx13] at h8
                    try simp only [hx2, hx3, hx5, hx7, hx9, hq10, hq11, hx12, hx13] at h9
                    all_goals (first | (simp only [hx2, hx3, hx5, hx7, hx9, hq10, hq11, hx12, hx13]; done) | (exfalso; omega) | simp_all)
                  ·
                    replace h9 := of_decide_eq_false h9
                    refine WC.skipn ?_
                    refine WC.seq' ?_
                    refine WC.seq ?_
                    refine WL.p (by rfl) (Yl.move (by rfl)) ?_
                    refine WL.p (by rfl) (Yl.move (by rfl)) ?_
                    refine WL.p (by rfl) (Yl.nei (by rfl) (by rfl)) ?_
                    refine WL.next ?_
                    refine WC.condS (by rfl) (fun h10 => ?_) (fun h10 => ?_)
                    ·
                      replace h10 := not_eq_true h10
                      replace h10 := of_decide_eq_false h10
                      refine WC.seq ?_
                      refine WL.p (by rfl) (Yl.assign (by rfl)) ?_
                      refine WL.next ?_
                      refine WC.ret ?_
                      refine At.thenret ?_
                      refine fin1' rfl (by rfl) ?_
                      refine RetP.mk hs ?_
                      try simp only [hx2, hx3, hx5, hx7, hx9, hq10, hq11, hx12, hx13] at h1
                      try simp only [hx2, hx3, hx5, hx7, hx9, hq10, hq11, hx12, hx13] at h2
                      try simp only [hx2, hx3, hx5, hx7, hx9, hq10, hq11, hx12, hx13] at h3
                      try simp only [hx2, hx3, hx5, hx7, hx9, hq10, hq11, hx12, hx13] at h4
                      try simp only [hx2, hx3, hx5, hx7, hx9, hq10, hq11, hx12, hx13] at h5
                      try simp only [hx2, hx3, hx5, hx7, hx9, hq10, hq11, hx12, hx13] at h6
                      try simp only [hx2, hx3, hx5, hx7, hx9, hq10, hq11, hx12, hx13] at h7
                      try simp only [hx2, hx3, hx5, hx7, hx9, hq10, hq11, hx12, hx13] at h8
                      try simp only [hx2, hx3, hx5, hx7, hx9, hq10, hq11, hx12, hx13] at h9
                      try simp only [hx2, hx3, hx5, hx7, hx9, hq10, hq11, hx12, hx13] at h10
                      all_goals (first | (simp only [hx2, hx3, hx5, hx7, hx9, hq10, hq11, hx12, hx13]; done) | (exfalso; omega) | simp_all)
                    ·
                      replace h10 := not_eq_false h10
                      replace h10 := of_decide_eq_true h10
                      refine WC.skipn ?_
                      refine WC.seq ?_
                      refine WL.p (by rfl) (Yl.assign (by rfl)) ?_
                      refine WL.next ?_
                      refine WC.ret ?_
                      refine fin1' rfl (by rfl) ?_
                      refine RetP.mk hs ?_
                      try simp only [hx2, hx3, hx5, hx7, hx9, hq10, hq11, hx12, hx13] at h1
                      try simp only [hx2, hx3, hx5, hx7, hx9, hq10, hq11, hx12, hx13] at h2
                      try simp only [hx2, hx3, hx5, hx7, hx9, hq10, hq11, hx12, hx13] at h3
                      try simp only [hx2, hx3, hx5, hx7, hx9, hq10, hq11, hx12, hx13] at h4
                      try simp only [hx2, hx3, hx5, hx7, hx9, hq10, hq11, hx12, hx13] at h5
                      try simp only [hx2, hx3, hx5, hx7, hx9, hq10, hq11, hx12, hx13] at h6
                      try simp only [hx2, hx3, hx5, hx7, hx9, hq10, hq11, hx12, hx13] at h7
                      try simp only [hx2, hx3, hx5, hx7, hx9, hq10, hq11, hx12, hx13] at h8
                      try simp only [hx2, hx3, hx5, hx7, hx9, hq10, hq11, hx12, hx13] at h9
                      try simp only [hx2, hx3, hx5, hx7, hx9, hq10, hq11, hx12, hx13] at h10
                      all_goals (first | (simp only [hx2, hx3, hx5, hx7, hx9, hq10, hq11, hx12, hx13]; done) | (exfalso; omega) | simp_all)

end Go.Sw
