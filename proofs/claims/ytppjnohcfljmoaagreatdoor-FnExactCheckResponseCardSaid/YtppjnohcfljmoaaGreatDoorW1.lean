/- Walks: what each function of the program returns, for every input. Printed by gen.py. -/
import Derived.Test.YtppjnohcfljmoaaGreatDoorW0
set_option linter.all false
namespace Go.Sw
open Go Go.RowKit Go.Proofs

theorem c_spec_ParsePolicy (s : Str) (w : World)  (hb : s.length ≤ 1048576) : Calls Tryz.prog 160 [S s].toArray w (Ret w (fun v w' => ∃ x : PPolicy, v = .tuple #[.agg (Ph.enc x).toArray, Bo (policyIs s)] ∧ x.lg = policyOf s ∧ Fresh w x w')) := by
  refine enterN 52 Tryz.func160 rfl rfl rfl ?_
  have hs := Sat.start w
  refine WC.seq ?_
  refine WL.r (by rfl) (Yr.alloc hs zt63) ?_
  clear hs; rintro _ w ⟨b1, rfl, hb, hs⟩; clear hb
  refine WL.p (by rfl) (Yl.assign (by rfl)) ?_
  refine WL.next ?_
  refine WC.seq' ?_
  refine WC.seq ?_
  refine WL.p (by rfl) (Yl.move (by rfl)) ?_
  refine WL.p (by rfl) (Yl.eqs (by rfl) (by rfl)) ?_
  refine WL.next ?_
  refine WC.condS (by rfl) (fun h1 => ?_) (fun h1 => ?_)
  ·
    replace h1 := of_decide_eq_true h1
    refine WC.seq ?_
    refine WL.p (by rfl) (Yl.build bt63 (by rfl) (by repeat (first | exact Fill.nil | (apply Fill.cons; rfl; rfl; rfl; repeat (first | (apply SetAt.here; repeat (first | exact Over.nil | apply Over.cons)) | apply SetAt.there))))) ?_
    refine WL.s (Yr.storeB hs (by rfl) (by rfl) (by rfl) (by repeat (first | exact Repl.here | apply Repl.there)) (by repeat (first | (apply SetAt.here; repeat (first | exact Over.nil | apply Over.cons)) | apply SetAt.there)) (by rfl) (by exact szf63)) ?_
    clear hs; rintro _ w hs
    refine WL.p (by rfl) (Yl.assign (by rfl)) ?_
    refine WL.next ?_
    refine WC.ret ?_
    refine At.thenret ?_
    refine fin2c rfl agg63 (by rfl) (by rfl) hs (by repeat (first | exact List.mem_cons_self | apply List.mem_cons_of_mem)) (by rfl) ?_
    refine Ret.mk hs ?_
    have hb9 : policyIs s = true := policyIs_nil h1
    exact ⟨⟨false, ⟨[], none, 0⟩, ⟨[], none, 0⟩, ⟨[], none, 0⟩, []⟩, by rw [hb9]; rfl, (policyOf_no (.inl h1)).symm, ⟨⟨[], PPolicy.zown _, .nil, fun b h => by cases h⟩⟩⟩
  ·
    replace h1 := of_decide_eq_false h1
    refine WC.skipn ?_
    refine WC.seq ?_
    refine WL.p (by rfl) (Yl.move (by rfl)) ?_
    refine WL.call hs (by rfl) (Yc.func (by rfl) fn192) (c_spec_l5Split _ 59 _ (by first | assumption | omega | (simp only [lsz] at *; omega) | (simp only [lsz, strsz, TPolicy.size, TCache.size, TAddr.size, TRequest.size, TEntry.size, TResponse.size, TLine.size] at *; omega) | (simp only [lsz_map, TPage.size, TBuilder.size, TNode.size, TToken.size, TTokenizer.size, TServer.size, TFile.size, TNet.size, TCache.size, TSheet.size, strsz] at *; omega) | (simp only [lsz_map, TPage.size, TBuilder.size, TNode.size, TToken.size, TTokenizer.size, TServer.size, TFile.size, TNet.size, TCache.size, TSheet.size, strsz, lsz] at *; omega))) ?_
    have hs0 := hs; clear hs; intro v w hb hR hs; clear hs
    obtain ⟨x2, rfl, hx2, hf2⟩ := hR
    obtain ⟨F2, hs⟩ := hf2.sat hs0 hb; clear hs0 hf2
    have hle2 := Sl.Ok.le (hs.okow (x := x2) (F := F2) (by repeat (first | exact List.mem_cons_self | apply List.mem_cons_of_mem)))
    refine WL.p (by rfl) (Yl.assign (by rfl)) ?_
    refine WL.next ?_
    refine WC.seq' ?_
    refine WC.seq ?_
    refine WL.p (by rfl) (Yl.move (by rfl)) ?_
    refine WL.p (by rfl) (Yl.len_sl slu53 (by rfl)) ?_
    refine WL.p (by rfl) (Yl.lss (by rfl) (by rfl)) ?_
    refine WL.next ?_
    refine WC.condS (by rfl) (fun h2 => ?_) (fun h2 => ?_)
    ·
      replace h2 := of_decide_eq_true h2
      refine WC.seq ?_
      refine WL.p (by rfl) (Yl.build bt63 (by rfl) (by repeat (first | exact Fill.nil | (apply Fill.cons; rfl; rfl; rfl; repeat (first | (apply SetAt.here; repeat (first | exact Over.nil | apply Over.cons)) | apply SetAt.there))))) ?_
      refine WL.s (Yr.storeB hs (by rfl) (by rfl) (by rfl) (by repeat (first | exact Repl.here | apply Repl.there)) (by repeat (first | (apply SetAt.here; repeat (first | exact Over.nil | apply Over.cons)) | apply SetAt.there)) (by rfl) (by exact szf63)) ?_
      clear hs; rintro _ w hs
      refine WL.p (by rfl) (Yl.assign (by rfl)) ?_
      refine WL.next ?_
      refine WC.ret ?_
      refine At.thenret ?_
      refine fin2c rfl agg63 (by rfl) (by rfl) hs (by repeat (first | exact List.mem_cons_self | apply List.mem_cons_of_mem)) (by rfl) ?_
      refine Ret.mk hs ?_
      have hb9 : policyIs s = false := policyIs_short h1 (by rw [← show x2.l = splitC 59 s from hx2]; omega)
      exact ⟨⟨false, ⟨[], none, 0⟩, ⟨[], none, 0⟩, ⟨[], none, 0⟩, []⟩, by rw [hb9]; rfl, (policyOf_no (.inr hb9)).symm, ⟨⟨[], PPolicy.zown _, .nil, fun b h => by cases h⟩⟩⟩
    ·
      replace h2 := of_decide_eq_false h2
      have h39 := getD_len (s := s) (i := 3)
      rw [← show x2.l = splitC 59 s from hx2] at h39
      refine WC.skipn ?_
      refine WC.anyn mixed hs ?_
      clear hs; intro w hs
      refine WA.p (i := 0) (by rfl) (by kernel_rfl) (by kernel_rfl) (by kernel_rfl) (by rfl) (hs.only (by repeat (first | exact Sel.nil | (apply Sel.cons; (repeat (first | exact Ext.here | apply Ext.there)))))) (fun w hs => Yl.move (by rfl)) ?_
      refine WA.p (i := 1) (by rfl) (by kernel_rfl) (by kernel_rfl) (by kernel_rfl) (by rfl) (hs.only (by repeat (first | exact Sel.nil | (apply Sel.cons; (repeat (first | exact Ext.here | apply Ext.there)))))) (fun w hs => Yl.indexAddr (k := 0) slt53 (by rfl) (by rfl) (hs.okow (x := x2) (F := F2) (by repeat (first | exact List.mem_cons_self | apply List.mem_cons_of_mem))) (by rfl) ((getD_some (i := 0) (z := ([] : Str)) (by omega)))) ?_
      refine WA.p (i := 2) (by rfl) (by kernel_rfl) (by kernel_rfl) (by kernel_rfl) (by rfl) (hs.only (by repeat (first | exact Sel.nil | (apply Sel.cons; (repeat (first | exact Ext.here | apply Ext.there)))))) (fun w hs => Yl.loadC0 sca9 (by rfl) (Sl.Ok.at_ (hs.okow (x := x2) (F := F2) (by repeat (first | exact List.mem_cons_self | apply List.mem_cons_of_mem))) ((getD_some (i := 0) (z := ([] : Str)) (by omega)))).2 (by rfl)) ?_
      refine WA.p (i := 5) (by rfl) (by kernel_rfl) (by kernel_rfl) (by kernel_rfl) (by rfl) (hs.only (by repeat (first | exact Sel.nil | (apply Sel.cons; (repeat (first | exact Ext.here | apply Ext.there)))))) (fun w hs => Yl.move (by rfl)) ?_
      refine WA.p (i := 6) (by rfl) (by kernel_rfl) (by kernel_rfl) (by kernel_rfl) (by rfl) (hs.only (by repeat (first | exact Sel.nil | (apply Sel.cons; (repeat (first | exact Ext.here | apply Ext.there)))))) (fun w hs => Yl.indexAddr (k := 1) slt53 (by rfl) (by rfl) (hs.okow (x := x2) (F := F2) (by repeat (first | exact List.mem_cons_self | apply List.mem_cons_of_mem))) (by rfl) ((getD_some (i := 1) (z := ([] : Str)) (by omega)))) ?_
      refine WA.p (i := 7) (by rfl) (by kernel_rfl) (by kernel_rfl) (by kernel_rfl) (by rfl) (hs.only (by repeat (first | exact Sel.nil | (apply Sel.cons; (repeat (first | exact Ext.here | apply Ext.there)))))) (fun w hs => Yl.loadC0 sca9 (by rfl) (Sl.Ok.at_ (hs.okow (x := x2) (F := F2) (by repeat (first | exact List.mem_cons_self | apply List.mem_cons_of_mem))) ((getD_some (i := 1) (z := ([] : Str)) (by omega)))).2 (by rfl)) ?_
      refine WA.p (i := 10) (by rfl) (by kernel_rfl) (by kernel_rfl) (by kernel_rfl) (by rfl) (hs.only (by repeat (first | exact Sel.nil | (apply Sel.cons; (repeat (first | exact Ext.here | apply Ext.there)))))) (fun w hs => Yl.move (by rfl)) ?_
      refine WA.p (i := 11) (by rfl) (by kernel_rfl) (by kernel_rfl) (by kernel_rfl) (by rfl) (hs.only (by repeat (first | exact Sel.nil | (apply Sel.cons; (repeat (first | exact Ext.here | apply Ext.there)))))) (fun w hs => Yl.indexAddr (k := 2) slt53 (by rfl) (by rfl) (hs.okow (x := x2) (F := F2) (by repeat (first | exact List.mem_cons_self | apply List.mem_cons_of_mem))) (by rfl) ((getD_some (i := 2) (z := ([] : Str)) (by omega)))) ?_
      refine WA.p (i := 12) (by rfl) (by kernel_rfl) (by kernel_rfl) (by kernel_rfl) (by rfl) (hs.only (by repeat (first | exact Sel.nil | (apply Sel.cons; (repeat (first | exact Ext.here | apply Ext.there)))))) (fun w hs => Yl.loadC0 sca9 (by rfl) (Sl.Ok.at_ (hs.okow (x := x2) (F := F2) (by repeat (first | exact List.mem_cons_self | apply List.mem_cons_of_mem))) ((getD_some (i := 2) (z := ([] : Str)) (by omega)))).2 (by rfl)) ?_
      refine WA.two (i := 3) (j := 16) (by kernel_rfl) ?_ ?_
      ·
        refine WI.call2 (i := 3) hs (fun _ hs => hs.only (by repeat (first | exact Sel.nil | (apply Sel.cons; (repeat (first | exact Ext.here | apply Ext.there)))))) (by rfl) (by rfl) (Yc.func (by rfl) fn192) (c_spec_l5Split _ 32 _ (by first | (have := getD_len (s := s) (i := 0); rw [← show x2.l = splitC 59 s from hx2] at this; omega) | (have := getD_len (s := s) (i := 1); rw [← show x2.l = splitC 59 s from hx2] at this; omega) | (have := getD_len (s := s) (i := 2); rw [← show x2.l = splitC 59 s from hx2] at this; omega) | (have := getD_len (s := s) (i := 3); rw [← show x2.l = splitC 59 s from hx2] at this; omega))) ?_
        have hs0 := hs; clear hs; intro v w hb hR hs; clear hs
        obtain ⟨x3, rfl, hx3, hf3⟩ := hR
        obtain ⟨F3, hs⟩ := hf3.sat hs0 hb; clear hs0 hf3
        have hle3 := Sl.Ok.le (hs.okow (x := x3) (F := F3) (by repeat (first | exact List.mem_cons_self | apply List.mem_cons_of_mem)))
        refine WA.p (i := 4) (by rfl) (by kernel_rfl) (by kernel_rfl) (by kernel_rfl) (by rfl) (hs.only (by repeat (first | exact Sel.nil | (apply Sel.cons; (repeat (first | exact Ext.here | apply Ext.there)))))) (fun w hs => Yl.slice_sl (s := x3) (l := 1) (h := x3.l.length) slt53 (by rfl) hle3 (by exact ⟨_, by rfl⟩) (by exact rfl) (by rw [hx3]; exact List.length_pos_iff.2 (splitC_ne _ _)) (by exact Nat.le_refl _)) ?_
        refine WA.two (i := 8) (j := 16) (by kernel_rfl) ?_ ?_
        ·
          refine WI.call2 (i := 8) hs (fun _ hs => hs.only (by repeat (first | exact Sel.nil | (apply Sel.cons; (repeat (first | exact Ext.here | apply Ext.there)))))) (by rfl) (by rfl) (Yc.func (by rfl) fn192) (c_spec_l5Split _ 32 _ (by first | (have := getD_len (s := s) (i := 0); rw [← show x2.l = splitC 59 s from hx2] at this; omega) | (have := getD_len (s := s) (i := 1); rw [← show x2.l = splitC 59 s from hx2] at this; omega) | (have := getD_len (s := s) (i := 2); rw [← show x2.l = splitC 59 s from hx2] at this; omega) | (have := getD_len (s := s) (i := 3); rw [← show x2.l = splitC 59 s from hx2] at this; omega))) ?_
          have hs0 := hs; clear hs; intro v w hb hR hs; clear hs
          obtain ⟨x4, rfl, hx4, hf4⟩ := hR
          obtain ⟨F4, hs⟩ := hf4.sat hs0 hb; clear hs0 hf4
          have hle4 := Sl.Ok.le (hs.okow (x := x4) (F := F4) (by repeat (first | exact List.mem_cons_self | apply List.mem_cons_of_mem)))
          refine WA.p (i := 9) (by rfl) (by kernel_rfl) (by kernel_rfl) (by kernel_rfl) (by rfl) (hs.only (by repeat (first | exact Sel.nil | (apply Sel.cons; (repeat (first | exact Ext.here | apply Ext.there)))))) (fun w hs => Yl.slice_sl (s := x4) (l := 1) (h := x4.l.length) slt53 (by rfl) hle4 (by exact ⟨_, by rfl⟩) (by exact rfl) (by rw [hx4]; exact List.length_pos_iff.2 (splitC_ne _ _)) (by exact Nat.le_refl _)) ?_
          refine WA.two (i := 13) (j := 16) (by kernel_rfl) ?_ ?_
          ·
            refine WI.call2 (i := 13) hs (fun _ hs => hs.only (by repeat (first | exact Sel.nil | (apply Sel.cons; (repeat (first | exact Ext.here | apply Ext.there)))))) (by rfl) (by rfl) (Yc.func (by rfl) fn192) (c_spec_l5Split _ 32 _ (by first | (have := getD_len (s := s) (i := 0); rw [← show x2.l = splitC 59 s from hx2] at this; omega) | (have := getD_len (s := s) (i := 1); rw [← show x2.l = splitC 59 s from hx2] at this; omega) | (have := getD_len (s := s) (i := 2); rw [← show x2.l = splitC 59 s from hx2] at this; omega) | (have := getD_len (s := s) (i := 3); rw [← show x2.l = splitC 59 s from hx2] at this; omega))) ?_
            have hs0 := hs; clear hs; intro v w hb hR hs; clear hs
            obtain ⟨x5, rfl, hx5, hf5⟩ := hR
            obtain ⟨F5, hs⟩ := hf5.sat hs0 hb; clear hs0 hf5
            have hle5 := Sl.Ok.le (hs.okow (x := x5) (F := F5) (by repeat (first | exact List.mem_cons_self | apply List.mem_cons_of_mem)))
            refine WA.p (i := 14) (by rfl) (by kernel_rfl) (by kernel_rfl) (by kernel_rfl) (by rfl) (hs.only (by repeat (first | exact Sel.nil | (apply Sel.cons; (repeat (first | exact Ext.here | apply Ext.there)))))) (fun w hs => Yl.slice_sl (s := x5) (l := 1) (h := x5.l.length) slt53 (by rfl) hle5 (by exact ⟨_, by rfl⟩) (by exact rfl) (by rw [hx5]; exact List.length_pos_iff.2 (splitC_ne _ _)) (by exact Nat.le_refl _)) ?_
            refine WA.p (i := 15) (by rfl) (by kernel_rfl) (by kernel_rfl) (by kernel_rfl) (by rfl) (hs.only (by repeat (first | exact Sel.nil | (apply Sel.cons; (repeat (first | exact Ext.here | apply Ext.there)))))) (fun w hs => Yl.build bt63 (by rfl) (by repeat (first | exact Fill.nil | (apply Fill.cons; rfl; rfl; rfl; repeat (first | (apply SetAt.here; repeat (first | exact Over.nil | apply Over.cons)) | apply SetAt.there))))) ?_
            refine WA.r (i := 16) (by kernel_rfl) (by rfl) (by rfl) (Yr.alloc hs zt63) (by rintro _ w ⟨b6, rfl, hb, hs⟩; exact hs.only (by repeat (first | exact Sel.nil | (apply Sel.cons; (repeat (first | exact Ext.here | apply Ext.there)))))) ?_
            clear hs; rintro _ w ⟨b6, rfl, hb, hs⟩; clear hb
            refine WA.s (i := 17) (by kernel_rfl) (by rfl) (Yr.storeB hs (by rfl) (by rfl) (by rfl) (by repeat (first | exact Repl.here | apply Repl.there)) (by repeat (first | (apply SetAt.here; repeat (first | exact Over.nil | apply Over.cons)) | apply SetAt.there)) (by rfl) (by exact szf63)) (by rintro _ w hs; exact hs.only (by repeat (first | exact Sel.nil | (apply Sel.cons; (repeat (first | exact Ext.here | apply Ext.there)))))) ?_
            clear hs; rintro _ w hs
            refine WA.donen (by kernel_rfl) ?_
            refine WC.seq' ?_
            refine WC.seq ?_
            refine WL.p (by rfl) (Yl.move (by rfl)) ?_
            refine WL.p (by rfl) (Yl.len_sl slu53 (by rfl)) ?_
            refine WL.p (by rfl) (Yl.gtr (by rfl) (by rfl)) ?_
            refine WL.p (by rfl) (Yl.move (by rfl)) ?_
            refine WL.split (d := 34) (by rfl) (fun h3 => ?_) (fun h3 => ?_)
            ·
              replace h3 := of_decide_eq_true h3
              refine WL.run (d := 34) (by rfl) (by rfl) ?_
              refine WL.p (by rfl) (Yl.move (by rfl)) ?_
              refine WL.run (d := 34) (by rfl) (by rfl) ?_
              refine WL.p (by rfl) (Yl.indexAddr (k := 3) slt53 (by rfl) (by rfl) (hs.okow (x := x2) (F := F2) (by repeat (first | exact List.mem_cons_self | apply List.mem_cons_of_mem))) (by rfl) ((getD_some (i := 3) (z := ([] : Str)) (by omega)))) ?_
              refine WL.run (d := 34) (by rfl) (by rfl) ?_
              refine WL.p (by rfl) (Yl.loadC0 sca9 (by rfl) (Sl.Ok.at_ (hs.okow (x := x2) (F := F2) (by repeat (first | exact List.mem_cons_self | apply List.mem_cons_of_mem))) ((getD_some (i := 3) (z := ([] : Str)) (by omega)))).2 (by rfl)) ?_
              refine WL.run (d := 34) (by rfl) (by rfl) ?_
              refine WL.p (by rfl) (Yl.len_str str9 (by rfl)) ?_
              refine WL.run (d := 34) (by rfl) (by rfl) ?_
              refine WL.p (by rfl) (Yl.gtr (by rfl) (by rfl)) ?_
              refine WL.p (by rfl) (Yl.pickT (by rfl) (by rfl)) ?_
              refine WL.next ?_
              refine WC.condS (by rfl) (fun h4 => ?_) (fun h4 => ?_)
              ·
                replace h4 := of_decide_eq_true h4
                refine WC.region ?_
                refine WL.p (by rfl) (Yl.move (by rfl)) ?_
                refine WL.p (by rfl) (Yl.indexAddr (k := 3) slt53 (by rfl) (by rfl) (hs.okow (x := x2) (F := F2) (by repeat (first | exact List.mem_cons_self | apply List.mem_cons_of_mem))) (by rfl) ((getD_some (i := 3) (z := ([] : Str)) (by omega)))) ?_
                refine WL.p (by rfl) (Yl.loadC0 sca9 (by rfl) (Sl.Ok.at_ (hs.okow (x := x2) (F := F2) (by repeat (first | exact List.mem_cons_self | apply List.mem_cons_of_mem))) ((getD_some (i := 3) (z := ([] : Str)) (by omega)))).2 (by rfl)) ?_
                refine WL.p (by rfl) (Yl.slice_str (l := 6) str9 (by rfl) (by exact ⟨_, by rfl⟩) (by exact rfl) (by omega) (by omega)) ?_
                refine WL.p (by rfl) (Yl.fieldAddr fa63_4 (by rfl)) ?_
                refine WL.s (Yr.storeB hs (by rfl) (by rfl) (by rfl) (by repeat (first | exact Repl.here | apply Repl.there)) (by repeat (first | (apply SetAt.here; repeat (first | exact Over.nil | apply Over.cons)) | apply SetAt.there)) (by rfl) (by exact szf9)) ?_
                clear hs; rintro _ w hs
                refine WL.nil ?_
                refine At.then_ ?_
                refine WC.seq' ?_
                refine WC.seq ?_
                refine WL.p (by rfl) (Yl.loadAB agg63 (by rfl) hs (by repeat (first | exact List.mem_cons_self | apply List.mem_cons_of_mem)) (by rfl) (by rfl)) ?_
                have hpl9 : PPolicy.lg (⟨true, (x3.cut 1 x3.l.length), (x4.cut 1 x4.l.length), (x5.cut 1 x5.l.length), (((x2.l.getD 3 []).drop 6).take ((x2.l.getD 3 []).length - 6))⟩ : PPolicy) = polS s := by
                  have e2 : x2.l = splitC 59 s := hx2
                  have g0 : x3.l = splitC 32 ((splitC 59 s).getD 0 []) := by rw [← e2]; exact hx3
                  have g1 : x4.l = splitC 32 ((splitC 59 s).getD 1 []) := by rw [← e2]; exact hx4
                  have g2 : x5.l = splitC 32 ((splitC 59 s).getD 2 []) := by rw [← e2]; exact hx5
                  have c0 : (x3.cut 1 x3.l.length).l = (splitC 32 ((splitC 59 s).getD 0 [])).tail := by rw [Sl.cut_full, g0, List.drop_one]
                  have c1 : (x4.cut 1 x4.l.length).l = (splitC 32 ((splitC 59 s).getD 1 [])).tail := by rw [Sl.cut_full, g1, List.drop_one]
                  have c2 : (x5.cut 1 x5.l.length).l = (splitC 32 ((splitC 59 s).getD 2 [])).tail := by rw [Sl.cut_full, g2, List.drop_one]
                  simp only [PPolicy.lg, polS, polOf, c0, c1, c2, TPolicy.mk.injEq, true_and]
                  rw [← e2]
                  first
                    | (rw [if_neg (show ¬ 3 < x2.l.length from fun h => by omega)]; done)
                    | (rw [if_pos (show 3 < x2.l.length from Int.ofNat_lt.1 (by omega))]; done)
                    | (rw [if_pos (show 3 < x2.l.length from Int.ofNat_lt.1 (by omega))]
                       simp only [nonceS, nonceI]
                       first
                         | (rfl; done)
                         | (rw [if_neg (by omega)]; done)
                         | (rw [if_pos (by omega), List.take_of_length_le (by simp)]; done)
                         | (rw [if_pos (by omega)]; done))
                refine WL.callp hs (by rfl) (Yc.func (by rfl) fn193) (c_spec_FormatPolicy (⟨true, (x3.cut 1 x3.l.length), (x4.cut 1 x4.l.length), (x5.cut 1 x5.l.length), (((x2.l.getD 3 []).drop 6).take ((x2.l.getD 3 []).length - 6))⟩ : PPolicy) _ ⟨trivial, (Sl.Ok.cut (hs.okow (x := x3) (F := F3) (by repeat (first | exact List.mem_cons_self | apply List.mem_cons_of_mem))) (by rw [hx3]; exact List.length_pos_iff.2 (splitC_ne _ _)) (by exact Nat.le_refl _)), (Sl.Ok.cut (hs.okow (x := x4) (F := F4) (by repeat (first | exact List.mem_cons_self | apply List.mem_cons_of_mem))) (by rw [hx4]; exact List.length_pos_iff.2 (splitC_ne _ _)) (by exact Nat.le_refl _)), (Sl.Ok.cut (hs.okow (x := x5) (F := F5) (by repeat (first | exact List.mem_cons_self | apply List.mem_cons_of_mem))) (by rw [hx5]; exact List.length_pos_iff.2 (splitC_ne _ _)) (by exact Nat.le_refl _)), (by show WfS _; unfold WfS; simp only [List.length_take, List.length_drop]; omega)⟩ (by rw [hpl9]; have := polS_size (s := s) (by rw [← show x2.l = splitC 59 s from hx2]; omega); omega)) ?_
                clear hs; intro w hs
                refine WL.p (by rfl) (Yl.move (by rfl)) ?_
                refine WL.p (by rfl) (Yl.nes (by rfl) (by rfl)) ?_
                refine WL.next ?_
                refine WC.condS (by rfl) (fun h5 => ?_) (fun h5 => ?_)
                ·
                  replace h5 := not_eq_true h5
                  replace h5 := of_decide_eq_false h5
                  refine WC.seq ?_
                  refine WL.p (by rfl) (Yl.build bt63 (by rfl) (by repeat (first | exact Fill.nil | (apply Fill.cons; rfl; rfl; rfl; repeat (first | (apply SetAt.here; repeat (first | exact Over.nil | apply Over.cons)) | apply SetAt.there))))) ?_
                  refine WL.s (Yr.storeB hs (by rfl) (by rfl) (by rfl) (by repeat (first | exact Repl.here | apply Repl.there)) (by repeat (first | (apply SetAt.here; repeat (first | exact Over.nil | apply Over.cons)) | apply SetAt.there)) (by rfl) (by exact szf63)) ?_
                  clear hs; rintro _ w hs
                  refine WL.p (by rfl) (Yl.assign (by rfl)) ?_
                  refine WL.next ?_
                  refine WC.ret ?_
                  refine At.thenret ?_
                  refine fin2c rfl agg63 (by rfl) (by rfl) hs (by repeat (first | exact List.mem_cons_self | apply List.mem_cons_of_mem)) (by rfl) ?_
                  refine Ret.mk hs ?_
                  rw [hpl9] at h5
                  have hb9 : policyIs s = false := policyIs_bad h1 h5
                  exact ⟨⟨false, ⟨[], none, 0⟩, ⟨[], none, 0⟩, ⟨[], none, 0⟩, []⟩, by rw [hb9]; rfl, (policyOf_no (.inr hb9)).symm, ⟨⟨[], PPolicy.zown _, .nil, fun b h => by cases h⟩⟩⟩
                ·
                  replace h5 := not_eq_false h5
                  replace h5 := of_decide_eq_true h5
                  refine WC.skipn ?_
                  refine WC.seq ?_
                  refine WL.p (by rfl) (Yl.loadAB agg63 (by rfl) hs (by repeat (first | exact List.mem_cons_self | apply List.mem_cons_of_mem)) (by rfl) (by rfl)) ?_
                  refine WL.s (Yr.storeB hs (by rfl) (by rfl) (by rfl) (by repeat (first | exact Repl.here | apply Repl.there)) (by repeat (first | (apply SetAt.here; repeat (first | exact Over.nil | apply Over.cons)) | apply SetAt.there)) (by rfl) (by exact szf63)) ?_
                  clear hs; rintro _ w hs
                  refine WL.p (by rfl) (Yl.assign (by rfl)) ?_
                  refine WL.next ?_
                  refine WC.ret ?_
                  refine fin2c rfl agg63 (by rfl) (by rfl) hs (by repeat (first | exact List.mem_cons_self | apply List.mem_cons_of_mem)) (by rfl) ?_
                  refine Ret.mk hs ?_
                  rw [hpl9] at h5
                  have hq9 : x2.l = splitC 59 s := hx2
                  have h49 : 3 ≤ (splitC 59 s).length := by rw [← hq9]; omega
                  have hb9 : policyIs s = true := policyIs_good h5 h49
                  obtain ⟨G90, hs⟩ := Sat.cutow (lo := 1) (hi := x3.l.length) (hs.sel (D := [ow x3 F3]) (by repeat (first | exact Sel.nil | (apply Sel.cons; (repeat (first | exact Ext.here | apply Ext.there)))))) (by rw [hx3]; exact List.length_pos_iff.2 (splitC_ne _ _)) (Nat.le_refl _)
                  obtain ⟨G91, hs⟩ := Sat.cutow (lo := 1) (hi := x4.l.length) (hs.sel (D := [ow x4 F4]) (by repeat (first | exact Sel.nil | (apply Sel.cons; (repeat (first | exact Ext.here | apply Ext.there)))))) (by rw [hx4]; exact List.length_pos_iff.2 (splitC_ne _ _)) (Nat.le_refl _)
                  obtain ⟨G92, hs⟩ := Sat.cutow (lo := 1) (hi := x5.l.length) (hs.sel (D := [ow x5 F5]) (by repeat (first | exact Sel.nil | (apply Sel.cons; (repeat (first | exact Ext.here | apply Ext.there)))))) (by rw [hx5]; exact List.length_pos_iff.2 (splitC_ne _ _)) (Nat.le_refl _)
                  refine ⟨(⟨true, (x3.cut 1 x3.l.length), (x4.cut 1 x4.l.length), (x5.cut 1 x5.l.length), (((x2.l.getD 3 []).drop 6).take ((x2.l.getD 3 []).length - 6))⟩ : PPolicy), by rw [hb9]; rfl, hpl9.trans (policyOf_good h1 hb9).symm, ?_⟩
                  exact (PPolicy.join _ (hs.only (D := [ow (x3.cut 1 x3.l.length) G90, ow (x4.cut 1 x4.l.length) G91, ow (x5.cut 1 x5.l.length) G92]) (by repeat (first | exact Sel.nil | (apply Sel.cons; (repeat (first | exact Ext.here | apply Ext.there)))))) trivial (by show WfS _; unfold WfS; first | (simp only [List.length_take, List.length_drop]; omega) | simp)).fresh List.mem_cons_self
              ·
                replace h4 := of_decide_eq_false h4
                refine WC.skipn ?_
                refine WC.seq' ?_
                refine WC.seq ?_
                refine WL.p (by rfl) (Yl.loadAB agg63 (by rfl) hs (by repeat (first | exact List.mem_cons_self | apply List.mem_cons_of_mem)) (by rfl) (by rfl)) ?_
                have hpl9 : PPolicy.lg (⟨true, (x3.cut 1 x3.l.length), (x4.cut 1 x4.l.length), (x5.cut 1 x5.l.length), ([] : Str)⟩ : PPolicy) = polS s := by
                  have e2 : x2.l = splitC 59 s := hx2
                  have g0 : x3.l = splitC 32 ((splitC 59 s).getD 0 []) := by rw [← e2]; exact hx3
                  have g1 : x4.l = splitC 32 ((splitC 59 s).getD 1 []) := by rw [← e2]; exact hx4
                  have g2 : x5.l = splitC 32 ((splitC 59 s).getD 2 []) := by rw [← e2]; exact hx5
                  have c0 : (x3.cut 1 x3.l.length).l = (splitC 32 ((splitC 59 s).getD 0 [])).tail := by rw [Sl.cut_full, g0, List.drop_one]
                  have c1 : (x4.cut 1 x4.l.length).l = (splitC 32 ((splitC 59 s).getD 1 [])).tail := by rw [Sl.cut_full, g1, List.drop_one]
                  have c2 : (x5.cut 1 x5.l.length).l = (splitC 32 ((splitC 59 s).getD 2 [])).tail := by rw [Sl.cut_full, g2, List.drop_one]
                  simp only [PPolicy.lg, polS, polOf, c0, c1, c2, TPolicy.mk.injEq, true_and]
                  rw [← e2]
                  first
                    | (rw [if_neg (show ¬ 3 < x2.l.length from fun h => by omega)]; done)
                    | (rw [if_pos (show 3 < x2.l.length from Int.ofNat_lt.1 (by omega))]; done)
                    | (rw [if_pos (show 3 < x2.l.length from Int.ofNat_lt.1 (by omega))]
                       simp only [nonceS, nonceI]
                       first
                         | (rfl; done)
                         | (rw [if_neg (by omega)]; done)
                         | (rw [if_pos (by omega), List.take_of_length_le (by simp)]; done)
                         | (rw [if_pos (by omega)]; done))
                refine WL.callp hs (by rfl) (Yc.func (by rfl) fn193) (c_spec_FormatPolicy (⟨true, (x3.cut 1 x3.l.length), (x4.cut 1 x4.l.length), (x5.cut 1 x5.l.length), ([] : Str)⟩ : PPolicy) _ ⟨trivial, (Sl.Ok.cut (hs.okow (x := x3) (F := F3) (by repeat (first | exact List.mem_cons_self | apply List.mem_cons_of_mem))) (by rw [hx3]; exact List.length_pos_iff.2 (splitC_ne _ _)) (by exact Nat.le_refl _)), (Sl.Ok.cut (hs.okow (x := x4) (F := F4) (by repeat (first | exact List.mem_cons_self | apply List.mem_cons_of_mem))) (by rw [hx4]; exact List.length_pos_iff.2 (splitC_ne _ _)) (by exact Nat.le_refl _)), (Sl.Ok.cut (hs.okow (x := x5) (F := F5) (by repeat (first | exact List.mem_cons_self | apply List.mem_cons_of_mem))) (by rw [hx5]; exact List.length_pos_iff.2 (splitC_ne _ _)) (by exact Nat.le_refl _)), (show WfS [] from Nat.zero_le _)⟩ (by rw [hpl9]; have := polS_size (s := s) (by rw [← show x2.l = splitC 59 s from hx2]; omega); omega)) ?_
                clear hs; intro w hs
                refine WL.p (by rfl) (Yl.move (by rfl)) ?_
                refine WL.p (by rfl) (Yl.nes (by rfl) (by rfl)) ?_
                refine WL.next ?_
                refine WC.condS (by rfl) (fun h5 => ?_) (fun h5 => ?_)
                ·
                  replace h5 := not_eq_true h5
                  replace h5 := of_decide_eq_false h5
                  refine WC.seq ?_
                  refine WL.p (by rfl) (Yl.build bt63 (by rfl) (by repeat (first | exact Fill.nil | (apply Fill.cons; rfl; rfl; rfl; repeat (first | (apply SetAt.here; repeat (first | exact Over.nil | apply Over.cons)) | apply SetAt.there))))) ?_
                  refine WL.s (Yr.storeB hs (by rfl) (by rfl) (by rfl) (by repeat (first | exact Repl.here | apply Repl.there)) (by repeat (first | (apply SetAt.here; repeat (first | exact Over.nil | apply Over.cons)) | apply SetAt.there)) (by rfl) (by exact szf63)) ?_
                  clear hs; rintro _ w hs
                  refine WL.p (by rfl) (Yl.assign (by rfl)) ?_
                  refine WL.next ?_
                  refine WC.ret ?_
                  refine At.thenret ?_
                  refine fin2c rfl agg63 (by rfl) (by rfl) hs (by repeat (first | exact List.mem_cons_self | apply List.mem_cons_of_mem)) (by rfl) ?_
                  refine Ret.mk hs ?_
                  rw [hpl9] at h5
                  have hb9 : policyIs s = false := policyIs_bad h1 h5
                  exact ⟨⟨false, ⟨[], none, 0⟩, ⟨[], none, 0⟩, ⟨[], none, 0⟩, []⟩, by rw [hb9]; rfl, (policyOf_no (.inr hb9)).symm, ⟨⟨[], PPolicy.zown _, .nil, fun b h => by cases h⟩⟩⟩
                ·
                  replace h5 := not_eq_false h5
                  replace h5 := of_decide_eq_true h5
                  refine WC.skipn ?_
                  refine WC.seq ?_
                  refine WL.p (by rfl) (Yl.loadAB agg63 (by rfl) hs (by repeat (first | exact List.mem_cons_self | apply List.mem_cons_of_mem)) (by rfl) (by rfl)) ?_
                  refine WL.s (Yr.storeB hs (by rfl) (by rfl) (by rfl) (by repeat (first | exact Repl.here | apply Repl.there)) (by repeat (first | (apply SetAt.here; repeat (first | exact Over.nil | apply Over.cons)) | apply SetAt.there)) (by rfl) (by exact szf63)) ?_
                  clear hs; rintro _ w hs
                  refine WL.p (by rfl) (Yl.assign (by rfl)) ?_
                  refine WL.next ?_
                  refine WC.ret ?_
                  refine fin2c rfl agg63 (by rfl) (by rfl) hs (by repeat (first | exact List.mem_cons_self | apply List.mem_cons_of_mem)) (by rfl) ?_
                  refine Ret.mk hs ?_
                  rw [hpl9] at h5
                  have hq9 : x2.l = splitC 59 s := hx2
                  have h49 : 3 ≤ (splitC 59 s).length := by rw [← hq9]; omega
                  have hb9 : policyIs s = true := policyIs_good h5 h49
                  obtain ⟨G90, hs⟩ := Sat.cutow (lo := 1) (hi := x3.l.length) (hs.sel (D := [ow x3 F3]) (by repeat (first | exact Sel.nil | (apply Sel.cons; (repeat (first | exact Ext.here | apply Ext.there)))))) (by rw [hx3]; exact List.length_pos_iff.2 (splitC_ne _ _)) (Nat.le_refl _)
                  obtain ⟨G91, hs⟩ := Sat.cutow (lo := 1) (hi := x4.l.length) (hs.sel (D := [ow x4 F4]) (by repeat (first | exact Sel.nil | (apply Sel.cons; (repeat (first | exact Ext.here | apply Ext.there)))))) (by rw [hx4]; exact List.length_pos_iff.2 (splitC_ne _ _)) (Nat.le_refl _)
                  obtain ⟨G92, hs⟩ := Sat.cutow (lo := 1) (hi := x5.l.length) (hs.sel (D := [ow x5 F5]) (by repeat (first | exact Sel.nil | (apply Sel.cons; (repeat (first | exact Ext.here | apply Ext.there)))))) (by rw [hx5]; exact List.length_pos_iff.2 (splitC_ne _ _)) (Nat.le_refl _)
                  refine ⟨(⟨true, (x3.cut 1 x3.l.length), (x4.cut 1 x4.l.length), (x5.cut 1 x5.l.length), ([] : Str)⟩ : PPolicy), by rw [hb9]; rfl, hpl9.trans (policyOf_good h1 hb9).symm, ?_⟩
                  exact (PPolicy.join _ (hs.only (D := [ow (x3.cut 1 x3.l.length) G90, ow (x4.cut 1 x4.l.length) G91, ow (x5.cut 1 x5.l.length) G92]) (by repeat (first | exact Sel.nil | (apply Sel.cons; (repeat (first | exact Ext.here | apply Ext.there)))))) trivial (by show WfS _; unfold WfS; first | (simp only [List.length_take, List.length_drop]; omega) | simp)).fresh List.mem_cons_self
            ·
              replace h3 := of_decide_eq_false h3
              refine WL.skip (d := 34) (by rfl) (by rfl) (by rfl) (by rfl) ?_
              refine WL.skip (d := 34) (by rfl) (by rfl) (by rfl) (by rfl) ?_
              refine WL.skip (d := 34) (by rfl) (by rfl) (by rfl) (by rfl) ?_
              refine WL.skip (d := 34) (by rfl) (by rfl) (by rfl) (by rfl) ?_
              refine WL.skip (d := 34) (by rfl) (by rfl) (by rfl) (by rfl) ?_
              refine WL.p (by rfl) (Yl.pickF (by rfl) (by rfl)) ?_
              refine WL.next ?_
              refine WC.condF (by rfl) ?_
              refine WC.skipn ?_
              refine WC.seq' ?_
              refine WC.seq ?_
              refine WL.p (by rfl) (Yl.loadAB agg63 (by rfl) hs (by repeat (first | exact List.mem_cons_self | apply List.mem_cons_of_mem)) (by rfl) (by rfl)) ?_
              have hpl9 : PPolicy.lg (⟨true, (x3.cut 1 x3.l.length), (x4.cut 1 x4.l.length), (x5.cut 1 x5.l.length), ([] : Str)⟩ : PPolicy) = polS s := by
                have e2 : x2.l = splitC 59 s := hx2
                have g0 : x3.l = splitC 32 ((splitC 59 s).getD 0 []) := by rw [← e2]; exact hx3
                have g1 : x4.l = splitC 32 ((splitC 59 s).getD 1 []) := by rw [← e2]; exact hx4
                have g2 : x5.l = splitC 32 ((splitC 59 s).getD 2 []) := by rw [← e2]; exact hx5
                have c0 : (x3.cut 1 x3.l.length).l = (splitC 32 ((splitC 59 s).getD 0 [])).tail := by rw [Sl.cut_full, g0, List.drop_one]
                have c1 : (x4.cut 1 x4.l.length).l = (splitC 32 ((splitC 59 s).getD 1 [])).tail := by rw [Sl.cut_full, g1, List.drop_one]
                have c2 : (x5.cut 1 x5.l.length).l = (splitC 32 ((splitC 59 s).getD 2 [])).tail := by rw [Sl.cut_full, g2, List.drop_one]
                simp only [PPolicy.lg, polS, polOf, c0, c1, c2, TPolicy.mk.injEq, true_and]
                rw [← e2]
                first
                  | (rw [if_neg (show ¬ 3 < x2.l.length from fun h => by omega)]; done)
                  | (rw [if_pos (show 3 < x2.l.length from Int.ofNat_lt.1 (by omega))]; done)
                  | (rw [if_pos (show 3 < x2.l.length from Int.ofNat_lt.1 (by omega))]
                     simp only [nonceS, nonceI]
                     first
                       | (rfl; done)
                       | (rw [if_neg (by omega)]; done)
                       | (rw [if_pos (by omega), List.take_of_length_le (by simp)]; done)
                       | (rw [if_pos (by omega)]; done))
              refine WL.callp hs (by rfl) (Yc.func (by rfl) fn193) (c_spec_FormatPolicy (⟨true, (x3.cut 1 x3.l.length), (x4.cut 1 x4.l.length), (x5.cut 1 x5.l.length), ([] : Str)⟩ : PPolicy) _ ⟨trivial, (Sl.Ok.cut (hs.okow (x := x3) (F := F3) (by repeat (first | exact List.mem_cons_self | apply List.mem_cons_of_mem))) (by rw [hx3]; exact List.length_pos_iff.2 (splitC_ne _ _)) (by exact Nat.le_refl _)), (Sl.Ok.cut (hs.okow (x := x4) (F := F4) (by repeat (first | exact List.mem_cons_self | apply List.mem_cons_of_mem))) (by rw [hx4]; exact List.length_pos_iff.2 (splitC_ne _ _)) (by exact Nat.le_refl _)), (Sl.Ok.cut (hs.okow (x := x5) (F := F5) (by repeat (first | exact List.mem_cons_self | apply List.mem_cons_of_mem))) (by rw [hx5]; exact List.length_pos_iff.2 (splitC_ne _ _)) (by exact Nat.le_refl _)), (show WfS [] from Nat.zero_le _)⟩ (by rw [hpl9]; have := polS_size (s := s) (by rw [← show x2.l = splitC 59 s from hx2]; omega); omega)) ?_
              clear hs; intro w hs
              refine WL.p (by rfl) (Yl.move (by rfl)) ?_
              refine WL.p (by rfl) (Yl.nes (by rfl) (by rfl)) ?_
              refine WL.next ?_
              refine WC.condS (by rfl) (fun h4 => ?_) (fun h4 => ?_)
              ·
                replace h4 := not_eq_true h4
                replace h4 := of_decide_eq_false h4
                refine WC.seq ?_
                refine WL.p (by rfl) (Yl.build bt63 (by rfl) (by repeat (first | exact Fill.nil | (apply Fill.cons; rfl; rfl; rfl; repeat (first | (apply SetAt.here; repeat (first | exact Over.nil | apply Over.cons)) | apply SetAt.there))))) ?_
                refine WL.s (Yr.storeB hs (by rfl) (by rfl) (by rfl) (by repeat (first | exact Repl.here | apply Repl.there)) (by repeat (first | (apply SetAt.here; repeat (first | exact Over.nil | apply Over.cons)) | apply SetAt.there)) (by rfl) (by exact szf63)) ?_
                clear hs; rintro _ w hs
                refine WL.p (by rfl) (Yl.assign (by rfl)) ?_
                refine WL.next ?_
                refine WC.ret ?_
                refine At.thenret ?_
                refine fin2c rfl agg63 (by rfl) (by rfl) hs (by repeat (first | exact List.mem_cons_self | apply List.mem_cons_of_mem)) (by rfl) ?_
                refine Ret.mk hs ?_
                rw [hpl9] at h4
                have hb9 : policyIs s = false := policyIs_bad h1 h4
                exact ⟨⟨false, ⟨[], none, 0⟩, ⟨[], none, 0⟩, ⟨[], none, 0⟩, []⟩, by rw [hb9]; rfl, (policyOf_no (.inr hb9)).symm, ⟨⟨[], PPolicy.zown _, .nil, fun b h => by cases h⟩⟩⟩
              ·
                replace h4 := not_eq_false h4
                replace h4 := of_decide_eq_true h4
                refine WC.skipn ?_
                refine WC.seq ?_
                refine WL.p (by rfl) (Yl.loadAB agg63 (by rfl) hs (by repeat (first | exact List.mem_cons_self | apply List.mem_cons_of_mem)) (by rfl) (by rfl)) ?_
                refine WL.s (Yr.storeB hs (by rfl) (by rfl) (by rfl) (by repeat (first | exact Repl.here | apply Repl.there)) (by repeat (first | (apply SetAt.here; repeat (first | exact Over.nil | apply Over.cons)) | apply SetAt.there)) (by rfl) (by exact szf63)) ?_
                clear hs; rintro _ w hs
                refine WL.p (by rfl) (Yl.assign (by rfl)) ?_
                refine WL.next ?_
                refine WC.ret ?_
                refine fin2c rfl agg63 (by rfl) (by rfl) hs (by repeat (first | exact List.mem_cons_self | apply List.mem_cons_of_mem)) (by rfl) ?_
                refine Ret.mk hs ?_
                rw [hpl9] at h4
                have hq9 : x2.l = splitC 59 s := hx2
                have h49 : 3 ≤ (splitC 59 s).length := by rw [← hq9]; omega
                have hb9 : policyIs s = true := policyIs_good h4 h49
                obtain ⟨G90, hs⟩ := Sat.cutow (lo := 1) (hi := x3.l.length) (hs.sel (D := [ow x3 F3]) (by repeat (first | exact Sel.nil | (apply Sel.cons; (repeat (first | exact Ext.here | apply Ext.there)))))) (by rw [hx3]; exact List.length_pos_iff.2 (splitC_ne _ _)) (Nat.le_refl _)
                obtain ⟨G91, hs⟩ := Sat.cutow (lo := 1) (hi := x4.l.length) (hs.sel (D := [ow x4 F4]) (by repeat (first | exact Sel.nil | (apply Sel.cons; (repeat (first | exact Ext.here | apply Ext.there)))))) (by rw [hx4]; exact List.length_pos_iff.2 (splitC_ne _ _)) (Nat.le_refl _)
                obtain ⟨G92, hs⟩ := Sat.cutow (lo := 1) (hi := x5.l.length) (hs.sel (D := [ow x5 F5]) (by repeat (first | exact Sel.nil | (apply Sel.cons; (repeat (first | exact Ext.here | apply Ext.there)))))) (by rw [hx5]; exact List.length_pos_iff.2 (splitC_ne _ _)) (Nat.le_refl _)
                refine ⟨(⟨true, (x3.cut 1 x3.l.length), (x4.cut 1 x4.l.length), (x5.cut 1 x5.l.length), ([] : Str)⟩ : PPolicy), by rw [hb9]; rfl, hpl9.trans (policyOf_good h1 hb9).symm, ?_⟩
                exact (PPolicy.join _ (hs.only (D := [ow (x3.cut 1 x3.l.length) G90, ow (x4.cut 1 x4.l.length) G91, ow (x5.cut 1 x5.l.length) G92]) (by repeat (first | exact Sel.nil | (apply Sel.cons; (repeat (first | exact Ext.here | apply Ext.there)))))) trivial (by show WfS _; unfold WfS; first | (simp only [List.length_take, List.length_drop]; omega) | simp)).fresh List.mem_cons_self
          ·
            refine WI.r (i := 16) (by rfl) (by rfl) (Yr.alloc hs zt63) (by rintro _ w ⟨b7, rfl, hb, hs⟩; exact hs.only (by repeat (first | exact Sel.nil | (apply Sel.cons; (repeat (first | exact Ext.here | apply Ext.there)))))) ?_
            clear hs; rintro _ w ⟨b7, rfl, hb, hs⟩; clear hb
            refine WA.call2 (i := 13) hs (fun _ hs => hs.only (by repeat (first | exact Sel.nil | (apply Sel.cons; (repeat (first | exact Ext.here | apply Ext.there)))))) (by kernel_rfl) (by rfl) (by rfl) (Yc.func (by rfl) fn192) (c_spec_l5Split _ 32 _ (by first | (have := getD_len (s := s) (i := 0); rw [← show x2.l = splitC 59 s from hx2] at this; omega) | (have := getD_len (s := s) (i := 1); rw [← show x2.l = splitC 59 s from hx2] at this; omega) | (have := getD_len (s := s) (i := 2); rw [← show x2.l = splitC 59 s from hx2] at this; omega) | (have := getD_len (s := s) (i := 3); rw [← show x2.l = splitC 59 s from hx2] at this; omega))) ?_
            have hs0 := hs; clear hs; intro v w hb hR hs; clear hs
            obtain ⟨x8, rfl, hx8, hf8⟩ := hR
            obtain ⟨F8, hs⟩ := hf8.sat hs0 hb; clear hs0 hf8
            have hle8 := Sl.Ok.le (hs.okow (x := x8) (F := F8) (by repeat (first | exact List.mem_cons_self | apply List.mem_cons_of_mem)))
            refine WA.r (i := 14) (by kernel_rfl) (by rfl) (by rfl) (Yl.yr (Yl.slice_sl (s := x8) (l := 1) (h := x8.l.length) slt53 (by rfl) hle8 (by exact ⟨_, by rfl⟩) (by exact rfl) (by rw [hx8]; exact List.length_pos_iff.2 (splitC_ne _ _)) (by exact Nat.le_refl _))) (by rintro _ _ ⟨rfl, rfl⟩; exact hs.only (by repeat (first | exact Sel.nil | (apply Sel.cons; (repeat (first | exact Ext.here | apply Ext.there)))))) ?_
            rintro _ _ ⟨rfl, rfl⟩
            refine WA.p (i := 15) (by rfl) (by kernel_rfl) (by kernel_rfl) (by kernel_rfl) (by rfl) (hs.only (by repeat (first | exact Sel.nil | (apply Sel.cons; (repeat (first | exact Ext.here | apply Ext.there)))))) (fun w hs => Yl.build bt63 (by rfl) (by repeat (first | exact Fill.nil | (apply Fill.cons; rfl; rfl; rfl; repeat (first | (apply SetAt.here; repeat (first | exact Over.nil | apply Over.cons)) | apply SetAt.there))))) ?_
            refine WA.s (i := 17) (by kernel_rfl) (by rfl) (Yr.storeB hs (by rfl) (by rfl) (by rfl) (by repeat (first | exact Repl.here | apply Repl.there)) (by repeat (first | (apply SetAt.here; repeat (first | exact Over.nil | apply Over.cons)) | apply SetAt.there)) (by rfl) (by exact szf63)) (by rintro _ w hs; exact hs.only (by repeat (first | exact Sel.nil | (apply Sel.cons; (repeat (first | exact Ext.here | apply Ext.there)))))) ?_
            clear hs; rintro _ w hs
            refine WA.donen (by kernel_rfl) ?_
            refine WC.seq' ?_
            refine WC.seq ?_
            refine WL.p (by rfl) (Yl.move (by rfl)) ?_
            refine WL.p (by rfl) (Yl.len_sl slu53 (by rfl)) ?_
            refine WL.p (by rfl) (Yl.gtr (by rfl) (by rfl)) ?_
            refine WL.p (by rfl) (Yl.move (by rfl)) ?_
            refine WL.split (d := 34) (by rfl) (fun h3 => ?_) (fun h3 => ?_)
            ·
              replace h3 := of_decide_eq_true h3
              refine WL.run (d := 34) (by rfl) (by rfl) ?_
              refine WL.p (by rfl) (Yl.move (by rfl)) ?_
              refine WL.run (d := 34) (by rfl) (by rfl) ?_
              refine WL.p (by rfl) (Yl.indexAddr (k := 3) slt53 (by rfl) (by rfl) (hs.okow (x := x2) (F := F2) (by repeat (first | exact List.mem_cons_self | apply List.mem_cons_of_mem))) (by rfl) ((getD_some (i := 3) (z := ([] : Str)) (by omega)))) ?_
              refine WL.run (d := 34) (by rfl) (by rfl) ?_
              refine WL.p (by rfl) (Yl.loadC0 sca9 (by rfl) (Sl.Ok.at_ (hs.okow (x := x2) (F := F2) (by repeat (first | exact List.mem_cons_self | apply List.mem_cons_of_mem))) ((getD_some (i := 3) (z := ([] : Str)) (by omega)))).2 (by rfl)) ?_
              refine WL.run (d := 34) (by rfl) (by rfl) ?_
              refine WL.p (by rfl) (Yl.len_str str9 (by rfl)) ?_
              refine WL.run (d := 34) (by rfl) (by rfl) ?_
              refine WL.p (by rfl) (Yl.gtr (by rfl) (by rfl)) ?_
              refine WL.p (by rfl) (Yl.pickT (by rfl) (by rfl)) ?_
              refine WL.next ?_
              refine WC.condS (by rfl) (fun h4 => ?_) (fun h4 => ?_)
              ·
                replace h4 := of_decide_eq_true h4
                refine WC.region ?_
                refine WL.p (by rfl) (Yl.move (by rfl)) ?_
                refine WL.p (by rfl) (Yl.indexAddr (k := 3) slt53 (by rfl) (by rfl) (hs.okow (x := x2) (F := F2) (by repeat (first | exact List.mem_cons_self | apply List.mem_cons_of_mem))) (by rfl) ((getD_some (i := 3) (z := ([] : Str)) (by omega)))) ?_
                refine WL.p (by rfl) (Yl.loadC0 sca9 (by rfl) (Sl.Ok.at_ (hs.okow (x := x2) (F := F2) (by repeat (first | exact List.mem_cons_self | apply List.mem_cons_of_mem))) ((getD_some (i := 3) (z := ([] : Str)) (by omega)))).2 (by rfl)) ?_
                refine WL.p (by rfl) (Yl.slice_str (l := 6) str9 (by rfl) (by exact ⟨_, by rfl⟩) (by exact rfl) (by omega) (by omega)) ?_
                refine WL.p (by rfl) (Yl.fieldAddr fa63_4 (by rfl)) ?_
                refine WL.s (Yr.storeB hs (by rfl) (by rfl) (by rfl) (by repeat (first | exact Repl.here | apply Repl.there)) (by repeat (first | (apply SetAt.here; repeat (first | exact Over.nil | apply Over.cons)) | apply SetAt.there)) (by rfl) (by exact szf9)) ?_
                clear hs; rintro _ w hs
                refine WL.nil ?_
                refine At.then_ ?_
                refine WC.seq' ?_
                refine WC.seq ?_
                refine WL.p (by rfl) (Yl.loadAB agg63 (by rfl) hs (by repeat (first | exact List.mem_cons_self | apply List.mem_cons_of_mem)) (by rfl) (by rfl)) ?_
                have hpl9 : PPolicy.lg (⟨true, (x3.cut 1 x3.l.length), (x4.cut 1 x4.l.length), (x8.cut 1 x8.l.length), (((x2.l.getD 3 []).drop 6).take ((x2.l.getD 3 []).length - 6))⟩ : PPolicy) = polS s := by
                  have e2 : x2.l = splitC 59 s := hx2
                  have g0 : x3.l = splitC 32 ((splitC 59 s).getD 0 []) := by rw [← e2]; exact hx3
                  have g1 : x4.l = splitC 32 ((splitC 59 s).getD 1 []) := by rw [← e2]; exact hx4
                  have g2 : x8.l = splitC 32 ((splitC 59 s).getD 2 []) := by rw [← e2]; exact hx8
                  have c0 : (x3.cut 1 x3.l.length).l = (splitC 32 ((splitC 59 s).getD 0 [])).tail := by rw [Sl.cut_full, g0, List.drop_one]
                  have c1 : (x4.cut 1 x4.l.length).l = (splitC 32 ((splitC 59 s).getD 1 [])).tail := by rw [Sl.cut_full, g1, List.drop_one]
                  have c2 : (x8.cut 1 x8.l.length).l = (splitC 32 ((splitC 59 s).getD 2 [])).tail := by rw [Sl.cut_full, g2, List.drop_one]
                  simp only [PPolicy.lg, polS, polOf, c0, c1, c2, TPolicy.mk.injEq, true_and]
                  rw [← e2]
                  first
                    | (rw [if_neg (show ¬ 3 < x2.l.length from fun h => by omega)]; done)
                    | (rw [if_pos (show 3 < x2.l.length from Int.ofNat_lt.1 (by omega))]; done)
                    | (rw [if_pos (show 3 < x2.l.length from Int.ofNat_lt.1 (by omega))]
                       simp only [nonceS, nonceI]
                       first
                         | (rfl; done)
                         | (rw [if_neg (by omega)]; done)
                         | (rw [if_pos (by omega), List.take_of_length_le (by simp)]; done)
                         | (rw [if_pos (by omega)]; done))
                refine WL.callp hs (by rfl) (Yc.func (by rfl) fn193) (c_spec_FormatPolicy (⟨true, (x3.cut 1 x3.l.length), (x4.cut 1 x4.l.length), (x8.cut 1 x8.l.length), (((x2.l.getD 3 []).drop 6).take ((x2.l.getD 3 []).length - 6))⟩ : PPolicy) _ ⟨trivial, (Sl.Ok.cut (hs.okow (x := x3) (F := F3) (by repeat (first | exact List.mem_cons_self | apply List.mem_cons_of_mem))) (by rw [hx3]; exact List.length_pos_iff.2 (splitC_ne _ _)) (by exact Nat.le_refl _)), (Sl.Ok.cut (hs.okow (x := x4) (F := F4) (by repeat (first | exact List.mem_cons_self | apply List.mem_cons_of_mem))) (by rw [hx4]; exact List.length_pos_iff.2 (splitC_ne _ _)) (by exact Nat.le_refl _)), (Sl.Ok.cut (hs.okow (x := x8) (F := F8) (by repeat (first | exact List.mem_cons_self | apply List.mem_cons_of_mem))) (by rw [hx8]; exact List.length_pos_iff.2 (splitC_ne _ _)) (by exact Nat.le_refl _)), (by show WfS _; unfold WfS; simp only [List.length_take, List.length_drop]; omega)⟩ (by rw [hpl9]; have := polS_size (s := s) (by rw [← show x2.l = splitC 59 s from hx2]; omega); omega)) ?_
                clear hs; intro w hs
                refine WL.p (by rfl) (Yl.move (by rfl)) ?_
                refine WL.p (by rfl) (Yl.nes (by rfl) (by rfl)) ?_
                refine WL.next ?_
                refine WC.condS (by rfl) (fun h5 => ?_) (fun h5 => ?_)
                ·
                  replace h5 := not_eq_true h5
                  replace h5 := of_decide_eq_false h5
                  refine WC.seq ?_
                  refine WL.p (by rfl) (Yl.build bt63 (by rfl) (by repeat (first | exact Fill.nil | (apply Fill.cons; rfl; rfl; rfl; repeat (first | (apply SetAt.here; repeat (first | exact Over.nil | apply Over.cons)) | apply SetAt.there))))) ?_
                  refine WL.s (Yr.storeB hs (by rfl) (by rfl) (by rfl) (by repeat (first | exact Repl.here | apply Repl.there)) (by repeat (first | (apply SetAt.here; repeat (first | exact Over.nil | apply Over.cons)) | apply SetAt.there)) (by rfl) (by exact szf63)) ?_
                  clear hs; rintro _ w hs
                  refine WL.p (by rfl) (Yl.assign (by rfl)) ?_
                  refine WL.next ?_
                  refine WC.ret ?_
                  refine At.thenret ?_
                  refine fin2c rfl agg63 (by rfl) (by rfl) hs (by repeat (first | exact List.mem_cons_self | apply List.mem_cons_of_mem)) (by rfl) ?_
                  refine Ret.mk hs ?_
                  rw [hpl9] at h5
                  have hb9 : policyIs s = false := policyIs_bad h1 h5
                  exact ⟨⟨false, ⟨[], none, 0⟩, ⟨[], none, 0⟩, ⟨[], none, 0⟩, []⟩, by rw [hb9]; rfl, (policyOf_no (.inr hb9)).symm, ⟨⟨[], PPolicy.zown _, .nil, fun b h => by cases h⟩⟩⟩
                ·
                  replace h5 := not_eq_false h5
                  replace h5 := of_decide_eq_true h5
                  refine WC.skipn ?_
                  refine WC.seq ?_
                  refine WL.p (by rfl) (Yl.loadAB agg63 (by rfl) hs (by repeat (first | exact List.mem_cons_self | apply List.mem_cons_of_mem)) (by rfl) (by rfl)) ?_
                  refine WL.s (Yr.storeB hs (by rfl) (by rfl) (by rfl) (by repeat (first | exact Repl.here | apply Repl.there)) (by repeat (first | (apply SetAt.here; repeat (first | exact Over.nil | apply Over.cons)) | apply SetAt.there)) (by rfl) (by exact szf63)) ?_
                  clear hs; rintro _ w hs
                  refine WL.p (by rfl) (Yl.assign (by rfl)) ?_
                  refine WL.next ?_
                  refine WC.ret ?_
                  refine fin2c rfl agg63 (by rfl) (by rfl) hs (by repeat (first | exact List.mem_cons_self | apply List.mem_cons_of_mem)) (by rfl) ?_
                  refine Ret.mk hs ?_
                  rw [hpl9] at h5
                  have hq9 : x2.l = splitC 59 s := hx2
                  have h49 : 3 ≤ (splitC 59 s).length := by rw [← hq9]; omega
                  have hb9 : policyIs s = true := policyIs_good h5 h49
                  obtain ⟨G90, hs⟩ := Sat.cutow (lo := 1) (hi := x3.l.length) (hs.sel (D := [ow x3 F3]) (by repeat (first | exact Sel.nil | (apply Sel.cons; (repeat (first | exact Ext.here | apply Ext.there)))))) (by rw [hx3]; exact List.length_pos_iff.2 (splitC_ne _ _)) (Nat.le_refl _)
                  obtain ⟨G91, hs⟩ := Sat.cutow (lo := 1) (hi := x4.l.length) (hs.sel (D := [ow x4 F4]) (by repeat (first | exact Sel.nil | (apply Sel.cons; (repeat (first | exact Ext.here | apply Ext.there)))))) (by rw [hx4]; exact List.length_pos_iff.2 (splitC_ne _ _)) (Nat.le_refl _)
                  obtain ⟨G92, hs⟩ := Sat.cutow (lo := 1) (hi := x8.l.length) (hs.sel (D := [ow x8 F8]) (by repeat (first | exact Sel.nil | (apply Sel.cons; (repeat (first | exact Ext.here | apply Ext.there)))))) (by rw [hx8]; exact List.length_pos_iff.2 (splitC_ne _ _)) (Nat.le_refl _)
                  refine ⟨(⟨true, (x3.cut 1 x3.l.length), (x4.cut 1 x4.l.length), (x8.cut 1 x8.l.length), (((x2.l.getD 3 []).drop 6).take ((x2.l.getD 3 []).length - 6))⟩ : PPolicy), by rw [hb9]; rfl, hpl9.trans (policyOf_good h1 hb9).symm, ?_⟩
                  exact (PPolicy.join _ (hs.only (D := [ow (x3.cut 1 x3.l.length) G90, ow (x4.cut 1 x4.l.length) G91, ow (x8.cut 1 x8.l.length) G92]) (by repeat (first | exact Sel.nil | (apply Sel.cons; (repeat (first | exact Ext.here | apply Ext.there)))))) trivial (by show WfS _; unfold WfS; first | (simp only [List.length_take, List.length_drop]; omega) | simp)).fresh List.mem_cons_self
              ·
                replace h4 := of_decide_eq_false h4
                refine WC.skipn ?_
                refine WC.seq' ?_
                refine WC.seq ?_
                refine WL.p (by rfl) (Yl.loadAB agg63 (by rfl) hs (by repeat (first | exact List.mem_cons_self | apply List.mem_cons_of_mem)) (by rfl) (by rfl)) ?_
                have hpl9 : PPolicy.lg (⟨true, (x3.cut 1 x3.l.length), (x4.cut 1 x4.l.length), (x8.cut 1 x8.l.length), ([] : Str)⟩ : PPolicy) = polS s := by
                  have e2 : x2.l = splitC 59 s := hx2
                  have g0 : x3.l = splitC 32 ((splitC 59 s).getD 0 []) := by rw [← e2]; exact hx3
                  have g1 : x4.l = splitC 32 ((splitC 59 s).getD 1 []) := by rw [← e2]; exact hx4
                  have g2 : x8.l = splitC 32 ((splitC 59 s).getD 2 []) := by rw [← e2]; exact hx8
                  have c0 : (x3.cut 1 x3.l.length).l = (splitC 32 ((splitC 59 s).getD 0 [])).tail := by rw [Sl.cut_full, g0, List.drop_one]
                  have c1 : (x4.cut 1 x4.l.length).l = (splitC 32 ((splitC 59 s).getD 1 [])).tail := by rw [Sl.cut_full, g1, List.drop_one]
                  have c2 : (x8.cut 1 x8.l.length).l = (splitC 32 ((splitC 59 s).getD 2 [])).tail := by rw [Sl.cut_full, g2, List.drop_one]
                  simp only [PPolicy.lg, polS, polOf, c0, c1, c2, TPolicy.mk.injEq, true_and]
                  rw [← e2]
                  first
                    | (rw [if_neg (show ¬ 3 < x2.l.length from fun h => by omega)]; done)
                    | (rw [if_pos (show 3 < x2.l.length from Int.ofNat_lt.1 (by omega))]; done)
                    | (rw [if_pos (show 3 < x2.l.length from Int.ofNat_lt.1 (by omega))]
                       simp only [nonceS, nonceI]
                       first
                         | (rfl; done)
                         | (rw [if_neg (by omega)]; done)
                         | (rw [if_pos (by omega), List.take_of_length_le (by simp)]; done)
                         | (rw [if_pos (by omega)]; done))
                refine WL.callp hs (by rfl) (Yc.func (by rfl) fn193) (c_spec_FormatPolicy (⟨true, (x3.cut 1 x3.l.length), (x4.cut 1 x4.l.length), (x8.cut 1 x8.l.length), ([] : Str)⟩ : PPolicy) _ ⟨trivial, (Sl.Ok.cut (hs.okow (x := x3) (F := F3) (by repeat (first | exact List.mem_cons_self | apply List.mem_cons_of_mem))) (by rw [hx3]; exact List.length_pos_iff.2 (splitC_ne _ _)) (by exact Nat.le_refl _)), (Sl.Ok.cut (hs.okow (x := x4) (F := F4) (by repeat (first | exact List.mem_cons_self | apply List.mem_cons_of_mem))) (by rw [hx4]; exact List.length_pos_iff.2 (splitC_ne _ _)) (by exact Nat.le_refl _)), (Sl.Ok.cut (hs.okow (x := x8) (F := F8) (by repeat (first | exact List.mem_cons_self | apply List.mem_cons_of_mem))) (by rw [hx8]; exact List.length_pos_iff.2 (splitC_ne _ _)) (by exact Nat.le_refl _)), (show WfS [] from Nat.zero_le _)⟩ (by rw [hpl9]; have := polS_size (s := s) (by rw [← show x2.l = splitC 59 s from hx2]; omega); omega)) ?_
                clear hs; intro w hs
                refine WL.p (by rfl) (Yl.move (by rfl)) ?_
                refine WL.p (by rfl) (Yl.nes (by rfl) (by rfl)) ?_
                refine WL.next ?_
                refine WC.condS (by rfl) (fun h5 => ?_) (fun h5 => ?_)
                ·
                  replace h5 := not_eq_true h5
                  replace h5 := of_decide_eq_false h5
                  refine WC.seq ?_
                  refine WL.p (by rfl) (Yl.build bt63 (by rfl) (by repeat (first | exact Fill.nil | (apply Fill.cons; rfl; rfl; rfl; repeat (first | (apply SetAt.here; repeat (first | exact Over.nil | apply Over.cons)) | apply SetAt.there))))) ?_
                  refine WL.s (Yr.storeB hs (by rfl) (by rfl) (by rfl) (by repeat (first | exact Repl.here | apply Repl.there)) (by repeat (first | (apply SetAt.here; repeat (first | exact Over.nil | apply Over.cons)) | apply SetAt.there)) (by rfl) (by exact szf63)) ?_
                  clear hs; rintro _ w hs
                  refine WL.p (by rfl) (Yl.assign (by rfl)) ?_
                  refine WL.next ?_
                  refine WC.ret ?_
                  refine At.thenret ?_
                  refine fin2c rfl agg63 (by rfl) (by rfl) hs (by repeat (first | exact List.mem_cons_self | apply List.mem_cons_of_mem)) (by rfl) ?_
                  refine Ret.mk hs ?_
                  rw [hpl9] at h5
                  have hb9 : policyIs s = false := policyIs_bad h1 h5
                  exact ⟨⟨false, ⟨[], none, 0⟩, ⟨[], none, 0⟩, ⟨[], none, 0⟩, []⟩, by rw [hb9]; rfl, (policyOf_no (.inr hb9)).symm, ⟨⟨[], PPolicy.zown _, .nil, fun b h => by cases h⟩⟩⟩
                ·
                  replace h5 := not_eq_false h5
                  replace h5 := of_decide_eq_true h5
                  refine WC.skipn ?_
                  refine WC.seq ?_
                  refine WL.p (by rfl) (Yl.loadAB agg63 (by rfl) hs (by repeat (first | exact List.mem_cons_self | apply List.mem_cons_of_mem)) (by rfl) (by rfl)) ?_
                  refine WL.s (Yr.storeB hs (by rfl) (by rfl) (by rfl) (by repeat (first | exact Repl.here | apply Repl.there)) (by repeat (first | (apply SetAt.here; repeat (first | exact Over.nil | apply Over.cons)) | apply SetAt.there)) (by rfl) (by exact szf63)) ?_
                  clear hs; rintro _ w hs
                  refine WL.p (by rfl) (Yl.assign (by rfl)) ?_
                  refine WL.next ?_
                  refine WC.ret ?_
                  refine fin2c rfl agg63 (by rfl) (by rfl) hs (by repeat (first | exact List.mem_cons_self | apply List.mem_cons_of_mem)) (by rfl) ?_
                  refine Ret.mk hs ?_
                  rw [hpl9] at h5
                  have hq9 : x2.l = splitC 59 s := hx2
                  have h49 : 3 ≤ (splitC 59 s).length := by rw [← hq9]; omega
                  have hb9 : policyIs s = true := policyIs_good h5 h49
                  obtain ⟨G90, hs⟩ := Sat.cutow (lo := 1) (hi := x3.l.length) (hs.sel (D := [ow x3 F3]) (by repeat (first | exact Sel.nil | (apply Sel.cons; (repeat (first | exact Ext.here | apply Ext.there)))))) (by rw [hx3]; exact List.length_pos_iff.2 (splitC_ne _ _)) (Nat.le_refl _)
                  obtain ⟨G91, hs⟩ := Sat.cutow (lo := 1) (hi := x4.l.length) (hs.sel (D := [ow x4 F4]) (by repeat (first | exact Sel.nil | (apply Sel.cons; (repeat (first | exact Ext.here | apply Ext.there)))))) (by rw [hx4]; exact List.length_pos_iff.2 (splitC_ne _ _)) (Nat.le_refl _)
                  obtain ⟨G92, hs⟩ := Sat.cutow (lo := 1) (hi := x8.l.length) (hs.sel (D := [ow x8 F8]) (by repeat (first | exact Sel.nil | (apply Sel.cons; (repeat (first | exact Ext.here | apply Ext.there)))))) (by rw [hx8]; exact List.length_pos_iff.2 (splitC_ne _ _)) (Nat.le_refl _)
                  refine ⟨(⟨true, (x3.cut 1 x3.l.length), (x4.cut 1 x4.l.length), (x8.cut 1 x8.l.length), ([] : Str)⟩ : PPolicy), by rw [hb9]; rfl, hpl9.trans (policyOf_good h1 hb9).symm, ?_⟩
                  exact (PPolicy.join _ (hs.only (D := [ow (x3.cut 1 x3.l.length) G90, ow (x4.cut 1 x4.l.length) G91, ow (x8.cut 1 x8.l.length) G92]) (by repeat (first | exact Sel.nil | (apply Sel.cons; (repeat (first | exact Ext.here | apply Ext.there)))))) trivial (by show WfS _; unfold WfS; first | (simp only [List.length_take, List.length_drop]; omega) | simp)).fresh List.mem_cons_self
            ·
              replace h3 := of_decide_eq_false h3
              refine WL.skip (d := 34) (by rfl) (by rfl) (by rfl) (by rfl) ?_
              refine WL.skip (d := 34) (by rfl) (by rfl) (by rfl) (by rfl) ?_
              refine WL.skip (d := 34) (by rfl) (by rfl) (by rfl) (by rfl) ?_
              refine WL.skip (d := 34) (by rfl) (by rfl) (by rfl) (by rfl) ?_
              refine WL.skip (d := 34) (by rfl) (by rfl) (by rfl) (by rfl) ?_
              refine WL.p (by rfl) (Yl.pickF (by rfl) (by rfl)) ?_
              refine WL.next ?_
              refine WC.condF (by rfl) ?_
              refine WC.skipn ?_
              refine WC.seq' ?_
              refine WC.seq ?_
              refine WL.p (by rfl) (Yl.loadAB agg63 (by rfl) hs (by repeat (first | exact List.mem_cons_self | apply List.mem_cons_of_mem)) (by rfl) (by rfl)) ?_
              have hpl9 : PPolicy.lg (⟨true, (x3.cut 1 x3.l.length), (x4.cut 1 x4.l.length), (x8.cut 1 x8.l.length), ([] : Str)⟩ : PPolicy) = polS s := by
                have e2 : x2.l = splitC 59 s := hx2
                have g0 : x3.l = splitC 32 ((splitC 59 s).getD 0 []) := by rw [← e2]; exact hx3
                have g1 : x4.l = splitC 32 ((splitC 59 s).getD 1 []) := by rw [← e2]; exact hx4
                have g2 : x8.l = splitC 32 ((splitC 59 s).getD 2 []) := by rw [← e2]; exact hx8
                have c0 : (x3.cut 1 x3.l.length).l = (splitC 32 ((splitC 59 s).getD 0 [])).tail := by rw [Sl.cut_full, g0, List.drop_one]
                have c1 : (x4.cut 1 x4.l.length).l = (splitC 32 ((splitC 59 s).getD 1 [])).tail := by rw [Sl.cut_full, g1, List.drop_one]
                have c2 : (x8.cut 1 x8.l.length).l = (splitC 32 ((splitC 59 s).getD 2 [])).tail := by rw [Sl.cut_full, g2, List.drop_one]
                simp only [PPolicy.lg, polS, polOf, c0, c1, c2, TPolicy.mk.injEq, true_and]
                rw [← e2]
                first
                  | (rw [if_neg (show ¬ 3 < x2.l.length from fun h => by omega)]; done)
                  | (rw [if_pos (show 3 < x2.l.length from Int.ofNat_lt.1 (by omega))]; done)
                  | (rw [if_pos (show 3 < x2.l.length from Int.ofNat_lt.1 (by omega))]
                     simp only [nonceS, nonceI]
                     first
                       | (rfl; done)
                       | (rw [if_neg (by omega)]; done)
                       | (rw [if_pos (by omega), List.take_of_length_le (by simp)]; done)
                       | (rw [if_pos (by omega)]; done))
              refine WL.callp hs (by rfl) (Yc.func (by rfl) fn193) (c_spec_FormatPolicy (⟨true, (x3.cut 1 x3.l.length), (x4.cut 1 x4.l.length), (x8.cut 1 x8.l.length), ([] : Str)⟩ : PPolicy) _ ⟨trivial, (Sl.Ok.cut (hs.okow (x := x3) (F := F3) (by repeat (first | exact List.mem_cons_self | apply List.mem_cons_of_mem))) (by rw [hx3]; exact List.length_pos_iff.2 (splitC_ne _ _)) (by exact Nat.le_refl _)), (Sl.Ok.cut (hs.okow (x := x4) (F := F4) (by repeat (first | exact List.mem_cons_self | apply List.mem_cons_of_mem))) (by rw [hx4]; exact List.length_pos_iff.2 (splitC_ne _ _)) (by exact Nat.le_refl _)), (Sl.Ok.cut (hs.okow (x := x8) (F := F8) (by repeat (first | exact List.mem_cons_self | apply List.mem_cons_of_mem))) (by rw [hx8]; exact List.length_pos_iff.2 (splitC_ne _ _)) (by exact Nat.le_refl _)), (show WfS [] from Nat.zero_le _)⟩ (by rw [hpl9]; have := polS_size (s := s) (by rw [← show x2.l = splitC 59 s from hx2]; omega); omega)) ?_
              clear hs; intro w hs
              refine WL.p (by rfl) (Yl.move (by rfl)) ?_
              refine WL.p (by rfl) (Yl.nes (by rfl) (by rfl)) ?_
              refine WL.next ?_
              refine WC.condS (by rfl) (fun h4 => ?_) (fun h4 => ?_)
              ·
                replace h4 := not_eq_true h4
                replace h4 := of_decide_eq_false h4
                refine WC.seq ?_
                refine WL.p (by rfl) (Yl.build bt63 (by rfl) (by repeat (first | exact Fill.nil | (apply Fill.cons; rfl; rfl; rfl; repeat (first | (apply SetAt.here; repeat (first | exact Over.nil | apply Over.cons)) | apply SetAt.there))))) ?_
                refine WL.s (Yr.storeB hs (by rfl) (by rfl) (by rfl) (by repeat (first | exact Repl.here | apply Repl.there)) (by repeat (first | (apply SetAt.here; repeat (first | exact Over.nil | apply Over.cons)) | apply SetAt.there)) (by rfl) (by exact szf63)) ?_
                clear hs; rintro _ w hs
                refine WL.p (by rfl) (Yl.assign (by rfl)) ?_
                refine WL.next ?_
                refine WC.ret ?_
                refine At.thenret ?_
                refine fin2c rfl agg63 (by rfl) (by rfl) hs (by repeat (first | exact List.mem_cons_self | apply List.mem_cons_of_mem)) (by rfl) ?_
                refine Ret.mk hs ?_
                rw [hpl9] at h4
                have hb9 : policyIs s = false := policyIs_bad h1 h4
                exact ⟨⟨false, ⟨[], none, 0⟩, ⟨[], none, 0⟩, ⟨[], none, 0⟩, []⟩, by rw [hb9]; rfl, (policyOf_no (.inr hb9)).symm, ⟨⟨[], PPolicy.zown _, .nil, fun b h => by cases h⟩⟩⟩
              ·
                replace h4 := not_eq_false h4
                replace h4 := of_decide_eq_true h4
                refine WC.skipn ?_
                refine WC.seq ?_
                refine WL.p (by rfl) (Yl.loadAB agg63 (by rfl) hs (by repeat (first | exact List.mem_cons_self | apply List.mem_cons_of_mem)) (by rfl) (by rfl)) ?_
                refine WL.s (Yr.storeB hs (by rfl) (by rfl) (by rfl) (by repeat (first | exact Repl.here | apply Repl.there)) (by repeat (first | (apply SetAt.here; repeat (first | exact Over.nil | apply Over.cons)) | apply SetAt.there)) (by rfl) (by exact szf63)) ?_
                clear hs; rintro _ w hs
                refine WL.p (by rfl) (Yl.assign (by rfl)) ?_
                refine WL.next ?_
                refine WC.ret ?_
                refine fin2c rfl agg63 (by rfl) (by rfl) hs (by repeat (first | exact List.mem_cons_self | apply List.mem_cons_of_mem)) (by rfl) ?_
                refine Ret.mk hs ?_
                rw [hpl9] at h4
                have hq9 : x2.l = splitC 59 s := hx2
                have h49 : 3 ≤ (splitC 59 s).length := by rw [← hq9]; omega
                have hb9 : policyIs s = true := policyIs_good h4 h49
                obtain ⟨G90, hs⟩ := Sat.cutow (lo := 1) (hi := x3.l.length) (hs.sel (D := [ow x3 F3]) (by repeat (first | exact Sel.nil | (apply Sel.cons; (repeat (first | exact Ext.here | apply Ext.there)))))) (by rw [hx3]; exact List.length_pos_iff.2 (splitC_ne _ _)) (Nat.le_refl _)
                obtain ⟨G91, hs⟩ := Sat.cutow (lo := 1) (hi := x4.l.length) (hs.sel (D := [ow x4 F4]) (by repeat (first | exact Sel.nil | (apply Sel.cons; (repeat (first | exact Ext.here | apply Ext.there)))))) (by rw [hx4]; exact List.length_pos_iff.2 (splitC_ne _ _)) (Nat.le_refl _)
                obtain ⟨G92, hs⟩ := Sat.cutow (lo := 1) (hi := x8.l.length) (hs.sel (D := [ow x8 F8]) (by repeat (first | exact Sel.nil | (apply Sel.cons; (repeat (first | exact Ext.here | apply Ext.there)))))) (by rw [hx8]; exact List.length_pos_iff.2 (splitC_ne _ _)) (Nat.le_refl _)
                refine ⟨(⟨true, (x3.cut 1 x3.l.length), (x4.cut 1 x4.l.length), (x8.cut 1 x8.l.length), ([] : Str)⟩ : PPolicy), by rw [hb9]; rfl, hpl9.trans (policyOf_good h1 hb9).symm, ?_⟩
                exact (PPolicy.join _ (hs.only (D := [ow (x3.cut 1 x3.l.length) G90, ow (x4.cut 1 x4.l.length) G91, ow (x8.cut 1 x8.l.length) G92]) (by repeat (first | exact Sel.nil | (apply Sel.cons; (repeat (first | exact Ext.here | apply Ext.there)))))) trivial (by show WfS _; unfold WfS; first | (simp only [List.length_take, List.length_drop]; omega) | simp)).fresh List.mem_cons_self
        ·
          refine WI.r (i := 16) (by rfl) (by rfl) (Yr.alloc hs zt63) (by rintro _ w ⟨b9, rfl, hb, hs⟩; exact hs.only (by repeat (first | exact Sel.nil | (apply Sel.cons; (repeat (first | exact Ext.here | apply Ext.there)))))) ?_
          clear hs; rintro _ w ⟨b9, rfl, hb, hs⟩; clear hb
          refine WA.call2 (i := 8) hs (fun _ hs => hs.only (by repeat (first | exact Sel.nil | (apply Sel.cons; (repeat (first | exact Ext.here | apply Ext.there)))))) (by kernel_rfl) (by rfl) (by rfl) (Yc.func (by rfl) fn192) (c_spec_l5Split _ 32 _ (by first | (have := getD_len (s := s) (i := 0); rw [← show x2.l = splitC 59 s from hx2] at this; omega) | (have := getD_len (s := s) (i := 1); rw [← show x2.l = splitC 59 s from hx2] at this; omega) | (have := getD_len (s := s) (i := 2); rw [← show x2.l = splitC 59 s from hx2] at this; omega) | (have := getD_len (s := s) (i := 3); rw [← show x2.l = splitC 59 s from hx2] at this; omega))) ?_
          have hs0 := hs; clear hs; intro v w hb hR hs; clear hs
          obtain ⟨x10, rfl, hx10, hf10⟩ := hR
          obtain ⟨F10, hs⟩ := hf10.sat hs0 hb; clear hs0 hf10
          have hle10 := Sl.Ok.le (hs.okow (x := x10) (F := F10) (by repeat (first | exact List.mem_cons_self | apply List.mem_cons_of_mem)))
          refine WA.p (i := 9) (by rfl) (by kernel_rfl) (by kernel_rfl) (by kernel_rfl) (by rfl) (hs.only (by repeat (first | exact Sel.nil | (apply Sel.cons; (repeat (first | exact Ext.here | apply Ext.there)))))) (fun w hs => Yl.slice_sl (s := x10) (l := 1) (h := x10.l.length) slt53 (by rfl) hle10 (by exact ⟨_, by rfl⟩) (by exact rfl) (by rw [hx10]; exact List.length_pos_iff.2 (splitC_ne _ _)) (by exact Nat.le_refl _)) ?_
          refine WA.call2 (i := 13) hs (fun _ hs => hs.only (by repeat (first | exact Sel.nil | (apply Sel.cons; (repeat (first | exact Ext.here | apply Ext.there)))))) (by kernel_rfl) (by rfl) (by rfl) (Yc.func (by rfl) fn192) (c_spec_l5Split _ 32 _ (by first | (have := getD_len (s := s) (i := 0); rw [← show x2.l = splitC 59 s from hx2] at this; omega) | (have := getD_len (s := s) (i := 1); rw [← show x2.l = splitC 59 s from hx2] at this; omega) | (have := getD_len (s := s) (i := 2); rw [← show x2.l = splitC 59 s from hx2] at this; omega) | (have := getD_len (s := s) (i := 3); rw [← show x2.l = splitC 59 s from hx2] at this; omega))) ?_
          have hs0 := hs; clear hs; intro v w hb hR hs; clear hs
          obtain ⟨x11, rfl, hx11, hf11⟩ := hR
          obtain ⟨F11, hs⟩ := hf11.sat hs0 hb; clear hs0 hf11
          have hle11 := Sl.Ok.le (hs.okow (x := x11) (F := F11) (by repeat (first | exact List.mem_cons_self | apply List.mem_cons_of_mem)))
          refine WA.r (i := 14) (by kernel_rfl) (by rfl) (by rfl) (Yl.yr (Yl.slice_sl (s := x11) (l := 1) (h := x11.l.length) slt53 (by rfl) hle11 (by exact ⟨_, by rfl⟩) (by exact rfl) (by rw [hx11]; exact List.length_pos_iff.2 (splitC_ne _ _)) (by exact Nat.le_refl _))) (by rintro _ _ ⟨rfl, rfl⟩; exact hs.only (by repeat (first | exact Sel.nil | (apply Sel.cons; (repeat (first | exact Ext.here | apply Ext.there)))))) ?_
          rintro _ _ ⟨rfl, rfl⟩
          refine WA.p (i := 15) (by rfl) (by kernel_rfl) (by kernel_rfl) (by kernel_rfl) (by rfl) (hs.only (by repeat (first | exact Sel.nil | (apply Sel.cons; (repeat (first | exact Ext.here | apply Ext.there)))))) (fun w hs => Yl.build bt63 (by rfl) (by repeat (first | exact Fill.nil | (apply Fill.cons; rfl; rfl; rfl; repeat (first | (apply SetAt.here; repeat (first | exact Over.nil | apply Over.cons)) | apply SetAt.there))))) ?_
          refine WA.s (i := 17) (by kernel_rfl) (by rfl) (Yr.storeB hs (by rfl) (by rfl) (by rfl) (by repeat (first | exact Repl.here | apply Repl.there)) (by repeat (first | (apply SetAt.here; repeat (first | exact Over.nil | apply Over.cons)) | apply SetAt.there)) (by rfl) (by exact szf63)) (by rintro _ w hs; exact hs.only (by repeat (first | exact Sel.nil | (apply Sel.cons; (repeat (first | exact Ext.here | apply Ext.there)))))) ?_
          clear hs; rintro _ w hs
          refine WA.donen (by kernel_rfl) ?_
          refine WC.seq' ?_
          refine WC.seq ?_
          refine WL.p (by rfl) (Yl.move (by rfl)) ?_
          refine WL.p (by rfl) (Yl.len_sl slu53 (by rfl)) ?_
          refine WL.p (by rfl) (Yl.gtr (by rfl) (by rfl)) ?_
          refine WL.p (by rfl) (Yl.move (by rfl)) ?_
          refine WL.split (d := 34) (by rfl) (fun h3 => ?_) (fun h3 => ?_)
          ·
            replace h3 := of_decide_eq_true h3
            refine WL.run (d := 34) (by rfl) (by rfl) ?_
            refine WL.p (by rfl) (Yl.move (by rfl)) ?_
            refine WL.run (d := 34) (by rfl) (by rfl) ?_
            refine WL.p (by rfl) (Yl.indexAddr (k := 3) slt53 (by rfl) (by rfl) (hs.okow (x := x2) (F := F2) (by repeat (first | exact List.mem_cons_self | apply List.mem_cons_of_mem))) (by rfl) ((getD_some (i := 3) (z := ([] : Str)) (by omega)))) ?_
            refine WL.run (d := 34) (by rfl) (by rfl) ?_
            refine WL.p (by rfl) (Yl.loadC0 sca9 (by rfl) (Sl.Ok.at_ (hs.okow (x := x2) (F := F2) (by repeat (first | exact List.mem_cons_self | apply List.mem_cons_of_mem))) ((getD_some (i := 3) (z := ([] : Str)) (by omega)))).2 (by rfl)) ?_
            refine WL.run (d := 34) (by rfl) (by rfl) ?_
            refine WL.p (by rfl) (Yl.len_str str9 (by rfl)) ?_
            refine WL.run (d := 34) (by rfl) (by rfl) ?_
            refine WL.p (by rfl) (Yl.gtr (by rfl) (by rfl)) ?_
            refine WL.p (by rfl) (Yl.pickT (by rfl) (by rfl)) ?_
            refine WL.next ?_
            refine WC.condS (by rfl) (fun h4 => ?_) (fun h4 => ?_)
            ·
              replace h4 := of_decide_eq_true h4
              refine WC.region ?_
              refine WL.p (by rfl) (Yl.move (by rfl)) ?_
              refine WL.p (by rfl) (Yl.indexAddr (k := 3) slt53 (by rfl) (by rfl) (hs.okow (x := x2) (F := F2) (by repeat (first | exact List.mem_cons_self | apply List.mem_cons_of_mem))) (by rfl) ((getD_some (i := 3) (z := ([] : Str)) (by omega)))) ?_
              refine WL.p (by rfl) (Yl.loadC0 sca9 (by rfl) (Sl.Ok.at_ (hs.okow (x := x2) (F := F2) (by repeat (first | exact List.mem_cons_self | apply List.mem_cons_of_mem))) ((getD_some (i := 3) (z := ([] : Str)) (by omega)))).2 (by rfl)) ?_
              refine WL.p (by rfl) (Yl.slice_str (l := 6) str9 (by rfl) (by exact ⟨_, by rfl⟩) (by exact rfl) (by omega) (by omega)) ?_
              refine WL.p (by rfl) (Yl.fieldAddr fa63_4 (by rfl)) ?_
              refine WL.s (Yr.storeB hs (by rfl) (by rfl) (by rfl) (by repeat (first | exact Repl.here | apply Repl.there)) (by repeat (first | (apply SetAt.here; repeat (first | exact Over.nil | apply Over.cons)) | apply SetAt.there)) (by rfl) (by exact szf9)) ?_
              clear hs; rintro _ w hs
              refine WL.nil ?_
              refine At.then_ ?_
              refine WC.seq' ?_
              refine WC.seq ?_
              refine WL.p (by rfl) (Yl.loadAB agg63 (by rfl) hs (by repeat (first | exact List.mem_cons_self | apply List.mem_cons_of_mem)) (by rfl) (by rfl)) ?_
              have hpl9 : PPolicy.lg (⟨true, (x3.cut 1 x3.l.length), (x10.cut 1 x10.l.length), (x11.cut 1 x11.l.length), (((x2.l.getD 3 []).drop 6).take ((x2.l.getD 3 []).length - 6))⟩ : PPolicy) = polS s := by
                have e2 : x2.l = splitC 59 s := hx2
                have g0 : x3.l = splitC 32 ((splitC 59 s).getD 0 []) := by rw [← e2]; exact hx3
                have g1 : x10.l = splitC 32 ((splitC 59 s).getD 1 []) := by rw [← e2]; exact hx10
                have g2 : x11.l = splitC 32 ((splitC 59 s).getD 2 []) := by rw [← e2]; exact hx11
                have c0 : (x3.cut 1 x3.l.length).l = (splitC 32 ((splitC 59 s).getD 0 [])).tail := by rw [Sl.cut_full, g0, List.drop_one]
                have c1 : (x10.cut 1 x10.l.length).l = (splitC 32 ((splitC 59 s).getD 1 [])).tail := by rw [Sl.cut_full, g1, List.drop_one]
                have c2 : (x11.cut 1 x11.l.length).l = (splitC 32 ((splitC 59 s).getD 2 [])).tail := by rw [Sl.cut_full, g2, List.drop_one]
                simp only [PPolicy.lg, polS, polOf, c0, c1, c2, TPolicy.mk.injEq, true_and]
                rw [← e2]
                first
                  | (rw [if_neg (show ¬ 3 < x2.l.length from fun h => by omega)]; done)
                  | (rw [if_pos (show 3 < x2.l.length from Int.ofNat_lt.1 (by omega))]; done)
                  | (rw [if_pos (show 3 < x2.l.length from Int.ofNat_lt.1 (by omega))]
                     simp only [nonceS, nonceI]
                     first
                       | (rfl; done)
                       | (rw [if_neg (by omega)]; done)
                       | (rw [if_pos (by omega), List.take_of_length_le (by simp)]; done)
                       | (rw [if_pos (by omega)]; done))
              refine WL.callp hs (by rfl) (Yc.func (by rfl) fn193) (c_spec_FormatPolicy (⟨true, (x3.cut 1 x3.l.length), (x10.cut 1 x10.l.length), (x11.cut 1 x11.l.length), (((x2.l.getD 3 []).drop 6).take ((x2.l.getD 3 []).length - 6))⟩ : PPolicy) _ ⟨trivial, (Sl.Ok.cut (hs.okow (x := x3) (F := F3) (by repeat (first | exact List.mem_cons_self | apply List.mem_cons_of_mem))) (by rw [hx3]; exact List.length_pos_iff.2 (splitC_ne _ _)) (by exact Nat.le_refl _)), (Sl.Ok.cut (hs.okow (x := x10) (F := F10) (by repeat (first | exact List.mem_cons_self | apply List.mem_cons_of_mem))) (by rw [hx10]; exact List.length_pos_iff.2 (splitC_ne _ _)) (by exact Nat.le_refl _)), (Sl.Ok.cut (hs.okow (x := x11) (F := F11) (by repeat (first | exact List.mem_cons_self | apply List.mem_cons_of_mem))) (by rw [hx11]; exact List.length_pos_iff.2 (splitC_ne _ _)) (by exact Nat.le_refl _)), (by show WfS _; unfold WfS; simp only [List.length_take, List.length_drop]; omega)⟩ (by rw [hpl9]; have := polS_size (s := s) (by rw [← show x2.l = splitC 59 s from hx2]; omega); omega)) ?_
              clear hs; intro w hs
              refine WL.p (by rfl) (Yl.move (by rfl)) ?_
              refine WL.p (by rfl) (Yl.nes (by rfl) (by rfl)) ?_
              refine WL.next ?_
              refine WC.condS (by rfl) (fun h5 => ?_) (fun h5 => ?_)
              ·
                replace h5 := not_eq_true h5
                replace h5 := of_decide_eq_false h5
                refine WC.seq ?_
                refine WL.p (by rfl) (Yl.build bt63 (by rfl) (by repeat (first | exact Fill.nil | (apply Fill.cons; rfl; rfl; rfl; repeat (first | (apply SetAt.here; repeat (first | exact Over.nil | apply Over.cons)) | apply SetAt.there))))) ?_
                refine WL.s (Yr.storeB hs (by rfl) (by rfl) (by rfl) (by repeat (first | exact Repl.here | apply Repl.there)) (by repeat (first | (apply SetAt.here; repeat (first | exact Over.nil | apply Over.cons)) | apply SetAt.there)) (by rfl) (by exact szf63)) ?_
                clear hs; rintro _ w hs
                refine WL.p (by rfl) (Yl.assign (by rfl)) ?_
                refine WL.next ?_
                refine WC.ret ?_
                refine At.thenret ?_
                refine fin2c rfl agg63 (by rfl) (by rfl) hs (by repeat (first | exact List.mem_cons_self | apply List.mem_cons_of_mem)) (by rfl) ?_
                refine Ret.mk hs ?_
                rw [hpl9] at h5
                have hb9 : policyIs s = false := policyIs_bad h1 h5
                exact ⟨⟨false, ⟨[], none, 0⟩, ⟨[], none, 0⟩, ⟨[], none, 0⟩, []⟩, by rw [hb9]; rfl, (policyOf_no (.inr hb9)).symm, ⟨⟨[], PPolicy.zown _, .nil, fun b h => by cases h⟩⟩⟩
              ·
                replace h5 := not_eq_false h5
                replace h5 := of_decide_eq_true h5
                refine WC.skipn ?_
                refine WC.seq ?_
                refine WL.p (by rfl) (Yl.loadAB agg63 (by rfl) hs (by repeat (first | exact List.mem_cons_self | apply List.mem_cons_of_mem)) (by rfl) (by rfl)) ?_
                refine WL.s (Yr.storeB hs (by rfl) (by rfl) (by rfl) (by repeat (first | exact Repl.here | apply Repl.there)) (by repeat (first | (apply SetAt.here; repeat (first | exact Over.nil | apply Over.cons)) | apply SetAt.there)) (by rfl) (by exact szf63)) ?_
                clear hs; rintro _ w hs
                refine WL.p (by rfl) (Yl.assign (by rfl)) ?_
                refine WL.next ?_
                refine WC.ret ?_
                refine fin2c rfl agg63 (by rfl) (by rfl) hs (by repeat (first | exact List.mem_cons_self | apply List.mem_cons_of_mem)) (by rfl) ?_
                refine Ret.mk hs ?_
                rw [hpl9] at h5
                have hq9 : x2.l = splitC 59 s := hx2
                have h49 : 3 ≤ (splitC 59 s).length := by rw [← hq9]; omega
                have hb9 : policyIs s = true := policyIs_good h5 h49
                obtain ⟨G90, hs⟩ := Sat.cutow (lo := 1) (hi := x3.l.length) (hs.sel (D := [ow x3 F3]) (by repeat (first | exact Sel.nil | (apply Sel.cons; (repeat (first | exact Ext.here | apply Ext.there)))))) (by rw [hx3]; exact List.length_pos_iff.2 (splitC_ne _ _)) (Nat.le_refl _)
                obtain ⟨G91, hs⟩ := Sat.cutow (lo := 1) (hi := x10.l.length) (hs.sel (D := [ow x10 F10]) (by repeat (first | exact Sel.nil | (apply Sel.cons; (repeat (first | exact Ext.here | apply Ext.there)))))) (by rw [hx10]; exact List.length_pos_iff.2 (splitC_ne _ _)) (Nat.le_refl _)
                obtain ⟨G92, hs⟩ := Sat.cutow (lo := 1) (hi := x11.l.length) (hs.sel (D := [ow x11 F11]) (by repeat (first | exact Sel.nil | (apply Sel.cons; (repeat (first | exact Ext.here | apply Ext.there)))))) (by rw [hx11]; exact List.length_pos_iff.2 (splitC_ne _ _)) (Nat.le_refl _)
                refine ⟨(⟨true, (x3.cut 1 x3.l.length), (x10.cut 1 x10.l.length), (x11.cut 1 x11.l.length), (((x2.l.getD 3 []).drop 6).take ((x2.l.getD 3 []).length - 6))⟩ : PPolicy), by rw [hb9]; rfl, hpl9.trans (policyOf_good h1 hb9).symm, ?_⟩
                exact (PPolicy.join _ (hs.only (D := [ow (x3.cut 1 x3.l.length) G90, ow (x10.cut 1 x10.l.length) G91, ow (x11.cut 1 x11.l.length) G92]) (by repeat (first | exact Sel.nil | (apply Sel.cons; (repeat (first | exact Ext.here | apply Ext.there)))))) trivial (by show WfS _; unfold WfS; first | (simp only [List.length_take, List.length_drop]; omega) | simp)).fresh List.mem_cons_self
            ·
              replace h4 := of_decide_eq_false h4
              refine WC.skipn ?_
              refine WC.seq' ?_
              refine WC.seq ?_
              refine WL.p (by rfl) (Yl.loadAB agg63 (by rfl) hs (by repeat (first | exact List.mem_cons_self | apply List.mem_cons_of_mem)) (by rfl) (by rfl)) ?_
              have hpl9 : PPolicy.lg (⟨true, (x3.cut 1 x3.l.length), (x10.cut 1 x10.l.length), (x11.cut 1 x11.l.length), ([] : Str)⟩ : PPolicy) = polS s := by
                have e2 : x2.l = splitC 59 s := hx2
                have g0 : x3.l = splitC 32 ((splitC 59 s).getD 0 []) := by rw [← e2]; exact hx3
                have g1 : x10.l = splitC 32 ((splitC 59 s).getD 1 []) := by rw [← e2]; exact hx10
                have g2 : x11.l = splitC 32 ((splitC 59 s).getD 2 []) := by rw [← e2]; exact hx11
                have c0 : (x3.cut 1 x3.l.length).l = (splitC 32 ((splitC 59 s).getD 0 [])).tail := by rw [Sl.cut_full, g0, List.drop_one]
                have c1 : (x10.cut 1 x10.l.length).l = (splitC 32 ((splitC 59 s).getD 1 [])).tail := by rw [Sl.cut_full, g1, List.drop_one]
                have c2 : (x11.cut 1 x11.l.length).l = (splitC 32 ((splitC 59 s).getD 2 [])).tail := by rw [Sl.cut_full, g2, List.drop_one]
                simp only [PPolicy.lg, polS, polOf, c0, c1, c2, TPolicy.mk.injEq, true_and]
                rw [← e2]
                first
                  | (rw [if_neg (show ¬ 3 < x2.l.length from fun h => by omega)]; done)
                  | (rw [if_pos (show 3 < x2.l.length from Int.ofNat_lt.1 (by omega))]; done)
                  | (rw [if_pos (show 3 < x2.l.length from Int.ofNat_lt.1 (by omega))]
                     simp only [nonceS, nonceI]
                     first
                       | (rfl; done)
                       | (rw [if_neg (by omega)]; done)
                       | (rw [if_pos (by omega), List.take_of_length_le (by simp)]; done)
                       | (rw [if_pos (by omega)]; done))
              refine WL.callp hs (by rfl) (Yc.func (by rfl) fn193) (c_spec_FormatPolicy (⟨true, (x3.cut 1 x3.l.length), (x10.cut 1 x10.l.length), (x11.cut 1 x11.l.length), ([] : Str)⟩ : PPolicy) _ ⟨trivial, (Sl.Ok.cut (hs.okow (x := x3) (F := F3) (by repeat (first | exact List.mem_cons_self | apply List.mem_cons_of_mem))) (by rw [hx3]; exact List.length_pos_iff.2 (splitC_ne _ _)) (by exact Nat.le_refl _)), (Sl.Ok.cut (hs.okow (x := x10) (F := F10) (by repeat (first | exact List.mem_cons_self | apply List.mem_cons_of_mem))) (by rw [hx10]; exact List.length_pos_iff.2 (splitC_ne _ _)) (by exact Nat.le_refl _)), (Sl.Ok.cut (hs.okow (x := x11) (F := F11) (by repeat (first | exact List.mem_cons_self | apply List.mem_cons_of_mem))) (by rw [hx11]; exact List.length_pos_iff.2 (splitC_ne _ _)) (by exact Nat.le_refl _)), (show WfS [] from Nat.zero_le _)⟩ (by rw [hpl9]; have := polS_size (s := s) (by rw [← show x2.l = splitC 59 s from hx2]; omega); omega)) ?_
              clear hs; intro w hs
              refine WL.p (by rfl) (Yl.move (by rfl)) ?_
              refine WL.p (by rfl) (Yl.nes (by rfl) (by rfl)) ?_
              refine WL.next ?_
              refine WC.condS (by rfl) (fun h5 => ?_) (fun h5 => ?_)
              ·
                replace h5 := not_eq_true h5
                replace h5 := of_decide_eq_false h5
                refine WC.seq ?_
                refine WL.p (by rfl) (Yl.build bt63 (by rfl) (by repeat (first | exact Fill.nil | (apply Fill.cons; rfl; rfl; rfl; repeat (first | (apply SetAt.here; repeat (first | exact Over.nil | apply Over.cons)) | apply SetAt.there))))) ?_
                refine WL.s (Yr.storeB hs (by rfl) (by rfl) (by rfl) (by repeat (first | exact Repl.here | apply Repl.there)) (by repeat (first | (apply SetAt.here; repeat (first | exact Over.nil | apply Over.cons)) | apply SetAt.there)) (by rfl) (by exact szf63)) ?_
                clear hs; rintro _ w hs
                refine WL.p (by rfl) (Yl.assign (by rfl)) ?_
                refine WL.next ?_
                refine WC.ret ?_
                refine At.thenret ?_
                refine fin2c rfl agg63 (by rfl) (by rfl) hs (by repeat (first | exact List.mem_cons_self | apply List.mem_cons_of_mem)) (by rfl) ?_
                refine Ret.mk hs ?_
                rw [hpl9] at h5
                have hb9 : policyIs s = false := policyIs_bad h1 h5
                exact ⟨⟨false, ⟨[], none, 0⟩, ⟨[], none, 0⟩, ⟨[], none, 0⟩, []⟩, by rw [hb9]; rfl, (policyOf_no (.inr hb9)).symm, ⟨⟨[], PPolicy.zown _, .nil, fun b h => by cases h⟩⟩⟩
              ·
                replace h5 := not_eq_false h5
                replace h5 := of_decide_eq_true h5
                refine WC.skipn ?_
                refine WC.seq ?_
                refine WL.p (by rfl) (Yl.loadAB agg63 (by rfl) hs (by repeat (first | exact List.mem_cons_self | apply List.mem_cons_of_mem)) (by rfl) (by rfl)) ?_
                refine WL.s (Yr.storeB hs (by rfl) (by rfl) (by rfl) (by repeat (first | exact Repl.here | apply Repl.there)) (by repeat (first | (apply SetAt.here; repeat (first | exact Over.nil | apply Over.cons)) | apply SetAt.there)) (by rfl) (by exact szf63)) ?_
                clear hs; rintro _ w hs
                refine WL.p (by rfl) (Yl.assign (by rfl)) ?_
                refine WL.next ?_
                refine WC.ret ?_
                refine fin2c rfl agg63 (by rfl) (by rfl) hs (by repeat (first | exact List.mem_cons_self | apply List.mem_cons_of_mem)) (by rfl) ?_
                refine Ret.mk hs ?_
                rw [hpl9] at h5
                have hq9 : x2.l = splitC 59 s := hx2
                have h49 : 3 ≤ (splitC 59 s).length := by rw [← hq9]; omega
                have hb9 : policyIs s = true := policyIs_good h5 h49
                obtain ⟨G90, hs⟩ := Sat.cutow (lo := 1) (hi := x3.l.length) (hs.sel (D := [ow x3 F3]) (by repeat (first | exact Sel.nil | (apply Sel.cons; (repeat (first | exact Ext.here | apply Ext.there)))))) (by rw [hx3]; exact List.length_pos_iff.2 (splitC_ne _ _)) (Nat.le_refl _)
                obtain ⟨G91, hs⟩ := Sat.cutow (lo := 1) (hi := x10.l.length) (hs.sel (D := [ow x10 F10]) (by repeat (first | exact Sel.nil | (apply Sel.cons; (repeat (first | exact Ext.here | apply Ext.there)))))) (by rw [hx10]; exact List.length_pos_iff.2 (splitC_ne _ _)) (Nat.le_refl _)
                obtain ⟨G92, hs⟩ := Sat.cutow (lo := 1) (hi := x11.l.length) (hs.sel (D := [ow x11 F11]) (by repeat (first | exact Sel.nil | (apply Sel.cons; (repeat (first | exact Ext.here | apply Ext.there)))))) (by rw [hx11]; exact List.length_pos_iff.2 (splitC_ne _ _)) (Nat.le_refl _)
                refine ⟨(⟨true, (x3.cut 1 x3.l.length), (x10.cut 1 x10.l.length), (x11.cut 1 x11.l.length), ([] : Str)⟩ : PPolicy), by rw [hb9]; rfl, hpl9.trans (policyOf_good h1 hb9).symm, ?_⟩
                exact (PPolicy.join _ (hs.only (D := [ow (x3.cut 1 x3.l.length) G90, ow (x10.cut 1 x10.l.length) G91, ow (x11.cut 1 x11.l.length) G92]) (by repeat (first | exact Sel.nil | (apply Sel.cons; (repeat (first | exact Ext.here | apply Ext.there)))))) trivial (by show WfS _; unfold WfS; first | (simp only [List.length_take, List.length_drop]; omega) | simp)).fresh List.mem_cons_self
          ·
            replace h3 := of_decide_eq_false h3
            refine WL.skip (d := 34) (by rfl) (by rfl) (by rfl) (by rfl) ?_
            refine WL.skip (d := 34) (by rfl) (by rfl) (by rfl) (by rfl) ?_
            refine WL.skip (d := 34) (by rfl) (by rfl) (by rfl) (by rfl) ?_
            refine WL.skip (d := 34) (by rfl) (by rfl) (by rfl) (by rfl) ?_
            refine WL.skip (d := 34) (by rfl) (by rfl) (by rfl) (by rfl) ?_
            refine WL.p (by rfl) (Yl.pickF (by rfl) (by rfl)) ?_
            refine WL.next ?_
            refine WC.condF (by rfl) ?_
            refine WC.skipn ?_
            refine WC.seq' ?_
            refine WC.seq ?_
            refine WL.p (by rfl) (Yl.loadAB agg63 (by rfl) hs (by repeat (first | exact List.mem_cons_self | apply List.mem_cons_of_mem)) (by rfl) (by rfl)) ?_
            have hpl9 : PPolicy.lg (⟨true, (x3.cut 1 x3.l.length), (x10.cut 1 x10.l.length), (x11.cut 1 x11.l.length), ([] : Str)⟩ : PPolicy) = polS s := by
              have e2 : x2.l = splitC 59 s := hx2
              have g0 : x3.l = splitC 32 ((splitC 59 s).getD 0 []) := by rw [← e2]; exact hx3
              have g1 : x10.l = splitC 32 ((splitC 59 s).getD 1 []) := by rw [← e2]; exact hx10
              have g2 : x11.l = splitC 32 ((splitC 59 s).getD 2 []) := by rw [← e2]; exact hx11
              have c0 : (x3.cut 1 x3.l.length).l = (splitC 32 ((splitC 59 s).getD 0 [])).tail := by rw [Sl.cut_full, g0, List.drop_one]
              have c1 : (x10.cut 1 x10.l.length).l = (splitC 32 ((splitC 59 s).getD 1 [])).tail := by rw [Sl.cut_full, g1, List.drop_one]
              have c2 : (x11.cut 1 x11.l.length).l = (splitC 32 ((splitC 59 s).getD 2 [])).tail := by rw [Sl.cut_full, g2, List.drop_one]
              simp only [PPolicy.lg, polS, polOf, c0, c1, c2, TPolicy.mk.injEq, true_and]
              rw [← e2]
              first
                | (rw [if_neg (show ¬ 3 < x2.l.length from fun h => by omega)]; done)
                | (rw [if_pos (show 3 < x2.l.length from Int.ofNat_lt.1 (by omega))]; done)
                | (rw [if_pos (show 3 < x2.l.length from Int.ofNat_lt.1 (by omega))]
                   simp only [nonceS, nonceI]
                   first
                     | (rfl; done)
                     | (rw [if_neg (by omega)]; done)
                     | (rw [if_pos (by omega), List.take_of_length_le (by simp)]; done)
                     | (rw [if_pos (by omega)]; done))
            refine WL.callp hs (by rfl) (Yc.func (by rfl) fn193) (c_spec_FormatPolicy (⟨true, (x3.cut 1 x3.l.length), (x10.cut 1 x10.l.length), (x11.cut 1 x11.l.length), ([] : Str)⟩ : PPolicy) _ ⟨trivial, (Sl.Ok.cut (hs.okow (x := x3) (F := F3) (by repeat (first | exact List.mem_cons_self | apply List.mem_cons_of_mem))) (by rw [hx3]; exact List.length_pos_iff.2 (splitC_ne _ _)) (by exact Nat.le_refl _)), (Sl.Ok.cut (hs.okow (x := x10) (F := F10) (by repeat (first | exact List.mem_cons_self | apply List.mem_cons_of_mem))) (by rw [hx10]; exact List.length_pos_iff.2 (splitC_ne _ _)) (by exact Nat.le_refl _)), (Sl.Ok.cut (hs.okow (x := x11) (F := F11) (by repeat (first | exact List.mem_cons_self | apply List.mem_cons_of_mem))) (by rw [hx11]; exact List.length_pos_iff.2 (splitC_ne _ _)) (by exact Nat.le_refl _)), (show WfS [] from Nat.zero_le _)⟩ (by rw [hpl9]; have := polS_size (s := s) (by rw [← show x2.l = splitC 59 s from hx2]; omega); omega)) ?_
            clear hs; intro w hs
            refine WL.p (by rfl) (Yl.move (by rfl)) ?_
            refine WL.p (by rfl) (Yl.nes (by rfl) (by rfl)) ?_
            refine WL.next ?_
            refine WC.condS (by rfl) (fun h4 => ?_) (fun h4 => ?_)
            ·
              replace h4 := not_eq_true h4
              replace h4 := of_decide_eq_false h4
              refine WC.seq ?_
              refine WL.p (by rfl) (Yl.build bt63 (by rfl) (by repeat (first | exact Fill.nil | (apply Fill.cons; rfl; rfl; rfl; repeat (first | (apply SetAt.here; repeat (first | exact Over.nil | apply Over.cons)) | apply SetAt.there))))) ?_
              refine WL.s (Yr.storeB hs (by rfl) (by rfl) (by rfl) (by repeat (first | exact Repl.here | apply Repl.there)) (by repeat (first | (apply SetAt.here; repeat (first | exact Over.nil | apply Over.cons)) | apply SetAt.there)) (by rfl) (by exact szf63)) ?_
              clear hs; rintro _ w hs
              refine WL.p (by rfl) (Yl.assign (by rfl)) ?_
              refine WL.next ?_
              refine WC.ret ?_
              refine At.thenret ?_
              refine fin2c rfl agg63 (by rfl) (by rfl) hs (by repeat (first | exact List.mem_cons_self | apply List.mem_cons_of_mem)) (by rfl) ?_
              refine Ret.mk hs ?_
              rw [hpl9] at h4
              have hb9 : policyIs s = false := policyIs_bad h1 h4
              exact ⟨⟨false, ⟨[], none, 0⟩, ⟨[], none, 0⟩, ⟨[], none, 0⟩, []⟩, by rw [hb9]; rfl, (policyOf_no (.inr hb9)).symm, ⟨⟨[], PPolicy.zown _, .nil, fun b h => by cases h⟩⟩⟩
            ·
              replace h4 := not_eq_false h4
              replace h4 := of_decide_eq_true h4
              refine WC.skipn ?_
              refine WC.seq ?_
              refine WL.p (by rfl) (Yl.loadAB agg63 (by rfl) hs (by repeat (first | exact List.mem_cons_self | apply List.mem_cons_of_mem)) (by rfl) (by rfl)) ?_
              refine WL.s (Yr.storeB hs (by rfl) (by rfl) (by rfl) (by repeat (first | exact Repl.here | apply Repl.there)) (by repeat (first | (apply SetAt.here; repeat (first | exact Over.nil | apply Over.cons)) | apply SetAt.there)) (by rfl) (by exact szf63)) ?_
              clear hs; rintro _ w hs
              refine WL.p (by rfl) (Yl.assign (by rfl)) ?_
              refine WL.next ?_
              refine WC.ret ?_
              refine fin2c rfl agg63 (by rfl) (by rfl) hs (by repeat (first | exact List.mem_cons_self | apply List.mem_cons_of_mem)) (by rfl) ?_
              refine Ret.mk hs ?_
              rw [hpl9] at h4
              have hq9 : x2.l = splitC 59 s := hx2
              have h49 : 3 ≤ (splitC 59 s).length := by rw [← hq9]; omega
              have hb9 : policyIs s = true := policyIs_good h4 h49
              obtain ⟨G90, hs⟩ := Sat.cutow (lo := 1) (hi := x3.l.length) (hs.sel (D := [ow x3 F3]) (by repeat (first | exact Sel.nil | (apply Sel.cons; (repeat (first | exact Ext.here | apply Ext.there)))))) (by rw [hx3]; exact List.length_pos_iff.2 (splitC_ne _ _)) (Nat.le_refl _)
              obtain ⟨G91, hs⟩ := Sat.cutow (lo := 1) (hi := x10.l.length) (hs.sel (D := [ow x10 F10]) (by repeat (first | exact Sel.nil | (apply Sel.cons; (repeat (first | exact Ext.here | apply Ext.there)))))) (by rw [hx10]; exact List.length_pos_iff.2 (splitC_ne _ _)) (Nat.le_refl _)
              obtain ⟨G92, hs⟩ := Sat.cutow (lo := 1) (hi := x11.l.length) (hs.sel (D := [ow x11 F11]) (by repeat (first | exact Sel.nil | (apply Sel.cons; (repeat (first | exact Ext.here | apply Ext.there)))))) (by rw [hx11]; exact List.length_pos_iff.2 (splitC_ne _ _)) (Nat.le_refl _)
              refine ⟨(⟨true, (x3.cut 1 x3.l.length), (x10.cut 1 x10.l.length), (x11.cut 1 x11.l.length), ([] : Str)⟩ : PPolicy), by rw [hb9]; rfl, hpl9.trans (policyOf_good h1 hb9).symm, ?_⟩
              exact (PPolicy.join _ (hs.only (D := [ow (x3.cut 1 x3.l.length) G90, ow (x10.cut 1 x10.l.length) G91, ow (x11.cut 1 x11.l.length) G92]) (by repeat (first | exact Sel.nil | (apply Sel.cons; (repeat (first | exact Ext.here | apply Ext.there)))))) trivial (by show WfS _; unfold WfS; first | (simp only [List.length_take, List.length_drop]; omega) | simp)).fresh List.mem_cons_self
      ·
        refine WI.r (i := 16) (by rfl) (by rfl) (Yr.alloc hs zt63) (by rintro _ w ⟨b12, rfl, hb, hs⟩; exact hs.only (by repeat (first | exact Sel.nil | (apply Sel.cons; (repeat (first | exact Ext.here | apply Ext.there)))))) ?_
        clear hs; rintro _ w ⟨b12, rfl, hb, hs⟩; clear hb
        refine WA.call2 (i := 3) hs (fun _ hs => hs.only (by repeat (first | exact Sel.nil | (apply Sel.cons; (repeat (first | exact Ext.here | apply Ext.there)))))) (by kernel_rfl) (by rfl) (by rfl) (Yc.func (by rfl) fn192) (c_spec_l5Split _ 32 _ (by first | (have := getD_len (s := s) (i := 0); rw [← show x2.l = splitC 59 s from hx2] at this; omega) | (have := getD_len (s := s) (i := 1); rw [← show x2.l = splitC 59 s from hx2] at this; omega) | (have := getD_len (s := s) (i := 2); rw [← show x2.l = splitC 59 s from hx2] at this; omega) | (have := getD_len (s := s) (i := 3); rw [← show x2.l = splitC 59 s from hx2] at this; omega))) ?_
        have hs0 := hs; clear hs; intro v w hb hR hs; clear hs
        obtain ⟨x13, rfl, hx13, hf13⟩ := hR
        obtain ⟨F13, hs⟩ := hf13.sat hs0 hb; clear hs0 hf13
        have hle13 := Sl.Ok.le (hs.okow (x := x13) (F := F13) (by repeat (first | exact List.mem_cons_self | apply List.mem_cons_of_mem)))
        refine WA.p (i := 4) (by rfl) (by kernel_rfl) (by kernel_rfl) (by kernel_rfl) (by rfl) (hs.only (by repeat (first | exact Sel.nil | (apply Sel.cons; (repeat (first | exact Ext.here | apply Ext.there)))))) (fun w hs => Yl.slice_sl (s := x13) (l := 1) (h := x13.l.length) slt53 (by rfl) hle13 (by exact ⟨_, by rfl⟩) (by exact rfl) (by rw [hx13]; exact List.length_pos_iff.2 (splitC_ne _ _)) (by exact Nat.le_refl _)) ?_
        refine WA.call2 (i := 8) hs (fun _ hs => hs.only (by repeat (first | exact Sel.nil | (apply Sel.cons; (repeat (first | exact Ext.here | apply Ext.there)))))) (by kernel_rfl) (by rfl) (by rfl) (Yc.func (by rfl) fn192) (c_spec_l5Split _ 32 _ (by first | (have := getD_len (s := s) (i := 0); rw [← show x2.l = splitC 59 s from hx2] at this; omega) | (have := getD_len (s := s) (i := 1); rw [← show x2.l = splitC 59 s from hx2] at this; omega) | (have := getD_len (s := s) (i := 2); rw [← show x2.l = splitC 59 s from hx2] at this; omega) | (have := getD_len (s := s) (i := 3); rw [← show x2.l = splitC 59 s from hx2] at this; omega))) ?_
        have hs0 := hs; clear hs; intro v w hb hR hs; clear hs
        obtain ⟨x14, rfl, hx14, hf14⟩ := hR
        obtain ⟨F14, hs⟩ := hf14.sat hs0 hb; clear hs0 hf14
        have hle14 := Sl.Ok.le (hs.okow (x := x14) (F := F14) (by repeat (first | exact List.mem_cons_self | apply List.mem_cons_of_mem)))
        refine WA.p (i := 9) (by rfl) (by kernel_rfl) (by kernel_rfl) (by kernel_rfl) (by rfl) (hs.only (by repeat (first | exact Sel.nil | (apply Sel.cons; (repeat (first | exact Ext.here | apply Ext.there)))))) (fun w hs => Yl.slice_sl (s := x14) (l := 1) (h := x14.l.length) slt53 (by rfl) hle14 (by exact ⟨_, by rfl⟩) (by exact rfl) (by rw [hx14]; exact List.length_pos_iff.2 (splitC_ne _ _)) (by exact Nat.le_refl _)) ?_
        refine WA.call2 (i := 13) hs (fun _ hs => hs.only (by repeat (first | exact Sel.nil | (apply Sel.cons; (repeat (first | exact Ext.here | apply Ext.there)))))) (by kernel_rfl) (by rfl) (by rfl) (Yc.func (by rfl) fn192) (c_spec_l5Split _ 32 _ (by first | (have := getD_len (s := s) (i := 0); rw [← show x2.l = splitC 59 s from hx2] at this; omega) | (have := getD_len (s := s) (i := 1); rw [← show x2.l = splitC 59 s from hx2] at this; omega) | (have := getD_len (s := s) (i := 2); rw [← show x2.l = splitC 59 s from hx2] at this; omega) | (have := getD_len (s := s) (i := 3); rw [← show x2.l = splitC 59 s from hx2] at this; omega))) ?_
        have hs0 := hs; clear hs; intro v w hb hR hs; clear hs
        obtain ⟨x15, rfl, hx15, hf15⟩ := hR
        obtain ⟨F15, hs⟩ := hf15.sat hs0 hb; clear hs0 hf15
        have hle15 := Sl.Ok.le (hs.okow (x := x15) (F := F15) (by repeat (first | exact List.mem_cons_self | apply List.mem_cons_of_mem)))
        refine WA.r (i := 14) (by kernel_rfl) (by rfl) (by rfl) (Yl.yr (Yl.slice_sl (s := x15) (l := 1) (h := x15.l.length) slt53 (by rfl) hle15 (by exact ⟨_, by rfl⟩) (by exact rfl) (by rw [hx15]; exact List.length_pos_iff.2 (splitC_ne _ _)) (by exact Nat.le_refl _))) (by rintro _ _ ⟨rfl, rfl⟩; exact hs.only (by repeat (first | exact Sel.nil | (apply Sel.cons; (repeat (first | exact Ext.here | apply Ext.there)))))) ?_
        rintro _ _ ⟨rfl, rfl⟩
        refine WA.p (i := 15) (by rfl) (by kernel_rfl) (by kernel_rfl) (by kernel_rfl) (by rfl) (hs.only (by repeat (first | exact Sel.nil | (apply Sel.cons; (repeat (first | exact Ext.here | apply Ext.there)))))) (fun w hs => Yl.build bt63 (by rfl) (by repeat (first | exact Fill.nil | (apply Fill.cons; rfl; rfl; rfl; repeat (first | (apply SetAt.here; repeat (first | exact Over.nil | apply Over.cons)) | apply SetAt.there))))) ?_
        refine WA.s (i := 17) (by kernel_rfl) (by rfl) (Yr.storeB hs (by rfl) (by rfl) (by rfl) (by repeat (first | exact Repl.here | apply Repl.there)) (by repeat (first | (apply SetAt.here; repeat (first | exact Over.nil | apply Over.cons)) | apply SetAt.there)) (by rfl) (by exact szf63)) (by rintro _ w hs; exact hs.only (by repeat (first | exact Sel.nil | (apply Sel.cons; (repeat (first | exact Ext.here | apply Ext.there)))))) ?_
        clear hs; rintro _ w hs
        refine WA.donen (by kernel_rfl) ?_
        refine WC.seq' ?_
        refine WC.seq ?_
        refine WL.p (by rfl) (Yl.move (by rfl)) ?_
        refine WL.p (by rfl) (Yl.len_sl slu53 (by rfl)) ?_
        refine WL.p (by rfl) (Yl.gtr (by rfl) (by rfl)) ?_
        refine WL.p (by rfl) (Yl.move (by rfl)) ?_
        refine WL.split (d := 34) (by rfl) (fun h3 => ?_) (fun h3 => ?_)
        ·
          replace h3 := of_decide_eq_true h3
          refine WL.run (d := 34) (by rfl) (by rfl) ?_
          refine WL.p (by rfl) (Yl.move (by rfl)) ?_
          refine WL.run (d := 34) (by rfl) (by rfl) ?_
          refine WL.p (by rfl) (Yl.indexAddr (k := 3) slt53 (by rfl) (by rfl) (hs.okow (x := x2) (F := F2) (by repeat (first | exact List.mem_cons_self | apply List.mem_cons_of_mem))) (by rfl) ((getD_some (i := 3) (z := ([] : Str)) (by omega)))) ?_
          refine WL.run (d := 34) (by rfl) (by rfl) ?_
          refine WL.p (by rfl) (Yl.loadC0 sca9 (by rfl) (Sl.Ok.at_ (hs.okow (x := x2) (F := F2) (by repeat (first | exact List.mem_cons_self | apply List.mem_cons_of_mem))) ((getD_some (i := 3) (z := ([] : Str)) (by omega)))).2 (by rfl)) ?_
          refine WL.run (d := 34) (by rfl) (by rfl) ?_
          refine WL.p (by rfl) (Yl.len_str str9 (by rfl)) ?_
          refine WL.run (d := 34) (by rfl) (by rfl) ?_
          refine WL.p (by rfl) (Yl.gtr (by rfl) (by rfl)) ?_
          refine WL.p (by rfl) (Yl.pickT (by rfl) (by rfl)) ?_
          refine WL.next ?_
          refine WC.condS (by rfl) (fun h4 => ?_) (fun h4 => ?_)
          ·
            replace h4 := of_decide_eq_true h4
            refine WC.region ?_
            refine WL.p (by rfl) (Yl.move (by rfl)) ?_
            refine WL.p (by rfl) (Yl.indexAddr (k := 3) slt53 (by rfl) (by rfl) (hs.okow (x := x2) (F := F2) (by repeat (first | exact List.mem_cons_self | apply List.mem_cons_of_mem))) (by rfl) ((getD_some (i := 3) (z := ([] : Str)) (by omega)))) ?_
            refine WL.p (by rfl) (Yl.loadC0 sca9 (by rfl) (Sl.Ok.at_ (hs.okow (x := x2) (F := F2) (by repeat (first | exact List.mem_cons_self | apply List.mem_cons_of_mem))) ((getD_some (i := 3) (z := ([] : Str)) (by omega)))).2 (by rfl)) ?_
            refine WL.p (by rfl) (Yl.slice_str (l := 6) str9 (by rfl) (by exact ⟨_, by rfl⟩) (by exact rfl) (by omega) (by omega)) ?_
            refine WL.p (by rfl) (Yl.fieldAddr fa63_4 (by rfl)) ?_
            refine WL.s (Yr.storeB hs (by rfl) (by rfl) (by rfl) (by repeat (first | exact Repl.here | apply Repl.there)) (by repeat (first | (apply SetAt.here; repeat (first | exact Over.nil | apply Over.cons)) | apply SetAt.there)) (by rfl) (by exact szf9)) ?_
            clear hs; rintro _ w hs
            refine WL.nil ?_
            refine At.then_ ?_
            refine WC.seq' ?_
            refine WC.seq ?_
            refine WL.p (by rfl) (Yl.loadAB agg63 (by rfl) hs (by repeat (first | exact List.mem_cons_self | apply List.mem_cons_of_mem)) (by rfl) (by rfl)) ?_
            have hpl9 : PPolicy.lg (⟨true, (x13.cut 1 x13.l.length), (x14.cut 1 x14.l.length), (x15.cut 1 x15.l.length), (((x2.l.getD 3 []).drop 6).take ((x2.l.getD 3 []).length - 6))⟩ : PPolicy) = polS s := by
              have e2 : x2.l = splitC 59 s := hx2
              have g0 : x13.l = splitC 32 ((splitC 59 s).getD 0 []) := by rw [← e2]; exact hx13
              have g1 : x14.l = splitC 32 ((splitC 59 s).getD 1 []) := by rw [← e2]; exact hx14
              have g2 : x15.l = splitC 32 ((splitC 59 s).getD 2 []) := by rw [← e2]; exact hx15
              have c0 : (x13.cut 1 x13.l.length).l = (splitC 32 ((splitC 59 s).getD 0 [])).tail := by rw [Sl.cut_full, g0, List.drop_one]
              have c1 : (x14.cut 1 x14.l.length).l = (splitC 32 ((splitC 59 s).getD 1 [])).tail := by rw [Sl.cut_full, g1, List.drop_one]
              have c2 : (x15.cut 1 x15.l.length).l = (splitC 32 ((splitC 59 s).getD 2 [])).tail := by rw [Sl.cut_full, g2, List.drop_one]
              simp only [PPolicy.lg, polS, polOf, c0, c1, c2, TPolicy.mk.injEq, true_and]
              rw [← e2]
              first
                | (rw [if_neg (show ¬ 3 < x2.l.length from fun h => by omega)]; done)
                | (rw [if_pos (show 3 < x2.l.length from Int.ofNat_lt.1 (by omega))]; done)
                | (rw [if_pos (show 3 < x2.l.length from Int.ofNat_lt.1 (by omega))]
                   simp only [nonceS, nonceI]
                   first
                     | (rfl; done)
                     | (rw [if_neg (by omega)]; done)
                     | (rw [if_pos (by omega), List.take_of_length_le (by simp)]; done)
                     | (rw [if_pos (by omega)]; done))
            refine WL.callp hs (by rfl) (Yc.func (by rfl) fn193) (c_spec_FormatPolicy (⟨true, (x13.cut 1 x13.l.length), (x14.cut 1 x14.l.length), (x15.cut 1 x15.l.length), (((x2.l.getD 3 []).drop 6).take ((x2.l.getD 3 []).length - 6))⟩ : PPolicy) _ ⟨trivial, (Sl.Ok.cut (hs.okow (x := x13) (F := F13) (by repeat (first | exact List.mem_cons_self | apply List.mem_cons_of_mem))) (by rw [hx13]; exact List.length_pos_iff.2 (splitC_ne _ _)) (by exact Nat.le_refl _)), (Sl.Ok.cut (hs.okow (x := x14) (F := F14) (by repeat (first | exact List.mem_cons_self | apply List.mem_cons_of_mem))) (by rw [hx14]; exact List.length_pos_iff.2 (splitC_ne _ _)) (by exact Nat.le_refl _)), (Sl.Ok.cut (hs.okow (x := x15) (F := F15) (by repeat (first | exact List.mem_cons_self | apply List.mem_cons_of_mem))) (by rw [hx15]; exact List.length_pos_iff.2 (splitC_ne _ _)) (by exact Nat.le_refl _)), (by show WfS _; unfold WfS; simp only [List.length_take, List.length_drop]; omega)⟩ (by rw [hpl9]; have := polS_size (s := s) (by rw [← show x2.l = splitC 59 s from hx2]; omega); omega)) ?_
            clear hs; intro w hs
            refine WL.p (by rfl) (Yl.move (by rfl)) ?_
            refine WL.p (by rfl) (Yl.nes (by rfl) (by rfl)) ?_
            refine WL.next ?_
            refine WC.condS (by rfl) (fun h5 => ?_) (fun h5 => ?_)
            ·
              replace h5 := not_eq_true h5
              replace h5 := of_decide_eq_false h5
              refine WC.seq ?_
              refine WL.p (by rfl) (Yl.build bt63 (by rfl) (by repeat (first | exact Fill.nil | (apply Fill.cons; rfl; rfl; rfl; repeat (first | (apply SetAt.here; repeat (first | exact Over.nil | apply Over.cons)) | apply SetAt.there))))) ?_
              refine WL.s (Yr.storeB hs (by rfl) (by rfl) (by rfl) (by repeat (first | exact Repl.here | apply Repl.there)) (by repeat (first | (apply SetAt.here; repeat (first | exact Over.nil | apply Over.cons)) | apply SetAt.there)) (by rfl) (by exact szf63)) ?_
              clear hs; rintro _ w hs
              refine WL.p (by rfl) (Yl.assign (by rfl)) ?_
              refine WL.next ?_
              refine WC.ret ?_
              refine At.thenret ?_
              refine fin2c rfl agg63 (by rfl) (by rfl) hs (by repeat (first | exact List.mem_cons_self | apply List.mem_cons_of_mem)) (by rfl) ?_
              refine Ret.mk hs ?_
              rw [hpl9] at h5
              have hb9 : policyIs s = false := policyIs_bad h1 h5
              exact ⟨⟨false, ⟨[], none, 0⟩, ⟨[], none, 0⟩, ⟨[], none, 0⟩, []⟩, by rw [hb9]; rfl, (policyOf_no (.inr hb9)).symm, ⟨⟨[], PPolicy.zown _, .nil, fun b h => by cases h⟩⟩⟩
            ·
              replace h5 := not_eq_false h5
              replace h5 := of_decide_eq_true h5
              refine WC.skipn ?_
              refine WC.seq ?_
              refine WL.p (by rfl) (Yl.loadAB agg63 (by rfl) hs (by repeat (first | exact List.mem_cons_self | apply List.mem_cons_of_mem)) (by rfl) (by rfl)) ?_
              refine WL.s (Yr.storeB hs (by rfl) (by rfl) (by rfl) (by repeat (first | exact Repl.here | apply Repl.there)) (by repeat (first | (apply SetAt.here; repeat (first | exact Over.nil | apply Over.cons)) | apply SetAt.there)) (by rfl) (by exact szf63)) ?_
              clear hs; rintro _ w hs
              refine WL.p (by rfl) (Yl.assign (by rfl)) ?_
              refine WL.next ?_
              refine WC.ret ?_
              refine fin2c rfl agg63 (by rfl) (by rfl) hs (by repeat (first | exact List.mem_cons_self | apply List.mem_cons_of_mem)) (by rfl) ?_
              refine Ret.mk hs ?_
              rw [hpl9] at h5
              have hq9 : x2.l = splitC 59 s := hx2
              have h49 : 3 ≤ (splitC 59 s).length := by rw [← hq9]; omega
              have hb9 : policyIs s = true := policyIs_good h5 h49
              obtain ⟨G90, hs⟩ := Sat.cutow (lo := 1) (hi := x13.l.length) (hs.sel (D := [ow x13 F13]) (by repeat (first | exact Sel.nil | (apply Sel.cons; (repeat (first | exact Ext.here | apply Ext.there)))))) (by rw [hx13]; exact List.length_pos_iff.2 (splitC_ne _ _)) (Nat.le_refl _)
              obtain ⟨G91, hs⟩ := Sat.cutow (lo := 1) (hi := x14.l.length) (hs.sel (D := [ow x14 F14]) (by repeat (first | exact Sel.nil | (apply Sel.cons; (repeat (first | exact Ext.here | apply Ext.there)))))) (by rw [hx14]; exact List.length_pos_iff.2 (splitC_ne _ _)) (Nat.le_refl _)
              obtain ⟨G92, hs⟩ := Sat.cutow (lo := 1) (hi := x15.l.length) (hs.sel (D := [ow x15 F15]) (by repeat (first | exact Sel.nil | (apply Sel.cons; (repeat (first | exact Ext.here | apply Ext.there)))))) (by rw [hx15]; exact List.length_pos_iff.2 (splitC_ne _ _)) (Nat.le_refl _)
              refine ⟨(⟨true, (x13.cut 1 x13.l.length), (x14.cut 1 x14.l.length), (x15.cut 1 x15.l.length), (((x2.l.getD 3 []).drop 6).take ((x2.l.getD 3 []).length - 6))⟩ : PPolicy), by rw [hb9]; rfl, hpl9.trans (policyOf_good h1 hb9).symm, ?_⟩
              exact (PPolicy.join _ (hs.only (D := [ow (x13.cut 1 x13.l.length) G90, ow (x14.cut 1 x14.l.length) G91, ow (x15.cut 1 x15.l.length) G92]) (by repeat (first | exact Sel.nil | (apply Sel.cons; (repeat (first | exact Ext.here | apply Ext.there)))))) trivial (by show WfS _; unfold WfS; first | (simp only [List.length_take, List.length_drop]; omega) | simp)).fresh List.mem_cons_self
          ·
            replace h4 := of_decide_eq_false h4
            refine WC.skipn ?_
            refine WC.seq' ?_
            refine WC.seq ?_
            refine WL.p (by rfl) (Yl.loadAB agg63 (by rfl) hs (by repeat (first | exact List.mem_cons_self | apply List.mem_cons_of_mem)) (by rfl) (by rfl)) ?_
            have hpl9 : PPolicy.lg (⟨true, (x13.cut 1 x13.l.length), (x14.cut 1 x14.l.length), (x15.cut 1 x15.l.length), ([] : Str)⟩ : PPolicy) = polS s := by
              have e2 : x2.l = splitC 59 s := hx2
              have g0 : x13.l = splitC 32 ((splitC 59 s).getD 0 []) := by rw [← e2]; exact hx13
              have g1 : x14.l = splitC 32 ((splitC 59 s).getD 1 []) := by rw [← e2]; exact hx14
              have g2 : x15.l = splitC 32 ((splitC 59 s).getD 2 []) := by rw [← e2]; exact hx15
              have c0 : (x13.cut 1 x13.l.length).l = (splitC 32 ((splitC 59 s).getD 0 [])).tail := by rw [Sl.cut_full, g0, List.drop_one]
              have c1 : (x14.cut 1 x14.l.length).l = (splitC 32 ((splitC 59 s).getD 1 [])).tail := by rw [Sl.cut_full, g1, List.drop_one]
              have c2 : (x15.cut 1 x15.l.length).l = (splitC 32 ((splitC 59 s).getD 2 [])).tail := by rw [Sl.cut_full, g2, List.drop_one]
              simp only [PPolicy.lg, polS, polOf, c0, c1, c2, TPolicy.mk.injEq, true_and]
              rw [← e2]
              first
                | (rw [if_neg (show ¬ 3 < x2.l.length from fun h => by omega)]; done)
                | (rw [if_pos (show 3 < x2.l.length from Int.ofNat_lt.1 (by omega))]; done)
                | (rw [if_pos (show 3 < x2.l.length from Int.ofNat_lt.1 (by omega))]
                   simp only [nonceS, nonceI]
                   first
                     | (rfl; done)
                     | (rw [if_neg (by omega)]; done)
                     | (rw [if_pos (by omega), List.take_of_length_le (by simp)]; done)
                     | (rw [if_pos (by omega)]; done))
            refine WL.callp hs (by rfl) (Yc.func (by rfl) fn193) (c_spec_FormatPolicy (⟨true, (x13.cut 1 x13.l.length), (x14.cut 1 x14.l.length), (x15.cut 1 x15.l.length), ([] : Str)⟩ : PPolicy) _ ⟨trivial, (Sl.Ok.cut (hs.okow (x := x13) (F := F13) (by repeat (first | exact List.mem_cons_self | apply List.mem_cons_of_mem))) (by rw [hx13]; exact List.length_pos_iff.2 (splitC_ne _ _)) (by exact Nat.le_refl _)), (Sl.Ok.cut (hs.okow (x := x14) (F := F14) (by repeat (first | exact List.mem_cons_self | apply List.mem_cons_of_mem))) (by rw [hx14]; exact List.length_pos_iff.2 (splitC_ne _ _)) (by exact Nat.le_refl _)), (Sl.Ok.cut (hs.okow (x := x15) (F := F15) (by repeat (first | exact List.mem_cons_self | apply List.mem_cons_of_mem))) (by rw [hx15]; exact List.length_pos_iff.2 (splitC_ne _ _)) (by exact Nat.le_refl _)), (show WfS [] from Nat.zero_le _)⟩ (by rw [hpl9]; have := polS_size (s := s) (by rw [← show x2.l = splitC 59 s from hx2]; omega); omega)) ?_
            clear hs; intro w hs
            refine WL.p (by rfl) (Yl.move (by rfl)) ?_
            refine WL.p (by rfl) (Yl.nes (by rfl) (by rfl)) ?_
            refine WL.next ?_
            refine WC.condS (by rfl) (fun h5 => ?_) (fun h5 => ?_)
            ·
              replace h5 := not_eq_true h5
              replace h5 := of_decide_eq_false h5
              refine WC.seq ?_
              refine WL.p (by rfl) (Yl.build bt63 (by rfl) (by repeat (first | exact Fill.nil | (apply Fill.cons; rfl; rfl; rfl; repeat (first | (apply SetAt.here; repeat (first | exact Over.nil | apply Over.cons)) | apply SetAt.there))))) ?_
              refine WL.s (Yr.storeB hs (by rfl) (by rfl) (by rfl) (by repeat (first | exact Repl.here | apply Repl.there)) (by repeat (first | (apply SetAt.here; repeat (first | exact Over.nil | apply Over.cons)) | apply SetAt.there)) (by rfl) (by exact szf63)) ?_
              clear hs; rintro _ w hs
              refine WL.p (by rfl) (Yl.assign (by rfl)) ?_
              refine WL.next ?_
              refine WC.ret ?_
              refine At.thenret ?_
              refine fin2c rfl agg63 (by rfl) (by rfl) hs (by repeat (first | exact List.mem_cons_self | apply List.mem_cons_of_mem)) (by rfl) ?_
              refine Ret.mk hs ?_
              rw [hpl9] at h5
              have hb9 : policyIs s = false := policyIs_bad h1 h5
              exact ⟨⟨false, ⟨[], none, 0⟩, ⟨[], none, 0⟩, ⟨[], none, 0⟩, []⟩, by rw [hb9]; rfl, (policyOf_no (.inr hb9)).symm, ⟨⟨[], PPolicy.zown _, .nil, fun b h => by cases h⟩⟩⟩
            ·
              replace h5 := not_eq_false h5
              replace h5 := of_decide_eq_true h5
              refine WC.skipn ?_
              refine WC.seq ?_
              refine WL.p (by rfl) (Yl.loadAB agg63 (by rfl) hs (by repeat (first | exact List.mem_cons_self | apply List.mem_cons_of_mem)) (by rfl) (by rfl)) ?_
              refine WL.s (Yr.storeB hs (by rfl) (by rfl) (by rfl) (by repeat (first | exact Repl.here | apply Repl.there)) (by repeat (first | (apply SetAt.here; repeat (first | exact Over.nil | apply Over.cons)) | apply SetAt.there)) (by rfl) (by exact szf63)) ?_
              clear hs; rintro _ w hs
              refine WL.p (by rfl) (Yl.assign (by rfl)) ?_
              refine WL.next ?_
              refine WC.ret ?_
              refine fin2c rfl agg63 (by rfl) (by rfl) hs (by repeat (first | exact List.mem_cons_self | apply List.mem_cons_of_mem)) (by rfl) ?_
              refine Ret.mk hs ?_
              rw [hpl9] at h5
              have hq9 : x2.l = splitC 59 s := hx2
              have h49 : 3 ≤ (splitC 59 s).length := by rw [← hq9]; omega
              have hb9 : policyIs s = true := policyIs_good h5 h49
              obtain ⟨G90, hs⟩ := Sat.cutow (lo := 1) (hi := x13.l.length) (hs.sel (D := [ow x13 F13]) (by repeat (first | exact Sel.nil | (apply Sel.cons; (repeat (first | exact Ext.here | apply Ext.there)))))) (by rw [hx13]; exact List.length_pos_iff.2 (splitC_ne _ _)) (Nat.le_refl _)
              obtain ⟨G91, hs⟩ := Sat.cutow (lo := 1) (hi := x14.l.length) (hs.sel (D := [ow x14 F14]) (by repeat (first | exact Sel.nil | (apply Sel.cons; (repeat (first | exact Ext.here | apply Ext.there)))))) (by rw [hx14]; exact List.length_pos_iff.2 (splitC_ne _ _)) (Nat.le_refl _)
              obtain ⟨G92, hs⟩ := Sat.cutow (lo := 1) (hi := x15.l.length) (hs.sel (D := [ow x15 F15]) (by repeat (first | exact Sel.nil | (apply Sel.cons; (repeat (first | exact Ext.here | apply Ext.there)))))) (by rw [hx15]; exact List.length_pos_iff.2 (splitC_ne _ _)) (Nat.le_refl _)
              refine ⟨(⟨true, (x13.cut 1 x13.l.length), (x14.cut 1 x14.l.length), (x15.cut 1 x15.l.length), ([] : Str)⟩ : PPolicy), by rw [hb9]; rfl, hpl9.trans (policyOf_good h1 hb9).symm, ?_⟩
              exact (PPolicy.join _ (hs.only (D := [ow (x13.cut 1 x13.l.length) G90, ow (x14.cut 1 x14.l.length) G91, ow (x15.cut 1 x15.l.length) G92]) (by repeat (first | exact Sel.nil | (apply Sel.cons; (repeat (first | exact Ext.here | apply Ext.there)))))) trivial (by show WfS _; unfold WfS; first | (simp only [List.length_take, List.length_drop]; omega) | simp)).fresh List.mem_cons_self
        ·
          replace h3 := of_decide_eq_false h3
          refine WL.skip (d := 34) (by rfl) (by rfl) (by rfl) (by rfl) ?_
          refine WL.skip (d := 34) (by rfl) (by rfl) (by rfl) (by rfl) ?_
          refine WL.skip (d := 34) (by rfl) (by rfl) (by rfl) (by rfl) ?_
          refine WL.skip (d := 34) (by rfl) (by rfl) (by rfl) (by rfl) ?_
          refine WL.skip (d := 34) (by rfl) (by rfl) (by rfl) (by rfl) ?_
          refine WL.p (by rfl) (Yl.pickF (by rfl) (by rfl)) ?_
          refine WL.next ?_
          refine WC.condF (by rfl) ?_
          refine WC.skipn ?_
          refine WC.seq' ?_
          refine WC.seq ?_
          refine WL.p (by rfl) (Yl.loadAB agg63 (by rfl) hs (by repeat (first | exact List.mem_cons_self | apply List.mem_cons_of_mem)) (by rfl) (by rfl)) ?_
          have hpl9 : PPolicy.lg (⟨true, (x13.cut 1 x13.l.length), (x14.cut 1 x14.l.length), (x15.cut 1 x15.l.length), ([] : Str)⟩ : PPolicy) = polS s := by
            have e2 : x2.l = splitC 59 s := hx2
            have g0 : x13.l = splitC 32 ((splitC 59 s).getD 0 []) := by rw [← e2]; exact hx13
            have g1 : x14.l = splitC 32 ((splitC 59 s).getD 1 []) := by rw [← e2]; exact hx14
            have g2 : x15.l = splitC 32 ((splitC 59 s).getD 2 []) := by rw [← e2]; exact hx15
            have c0 : (x13.cut 1 x13.l.length).l = (splitC 32 ((splitC 59 s).getD 0 [])).tail := by rw [Sl.cut_full, g0, List.drop_one]
            have c1 : (x14.cut 1 x14.l.length).l = (splitC 32 ((splitC 59 s).getD 1 [])).tail := by rw [Sl.cut_full, g1, List.drop_one]
            have c2 : (x15.cut 1 x15.l.length).l = (splitC 32 ((splitC 59 s).getD 2 [])).tail := by rw [Sl.cut_full, g2, List.drop_one]
            simp only [PPolicy.lg, polS, polOf, c0, c1, c2, TPolicy.mk.injEq, true_and]
            rw [← e2]
            first
              | (rw [if_neg (show ¬ 3 < x2.l.length from fun h => by omega)]; done)
              | (rw [if_pos (show 3 < x2.l.length from Int.ofNat_lt.1 (by omega))]; done)
              | (rw [if_pos (show 3 < x2.l.length from Int.ofNat_lt.1 (by omega))]
                 simp only [nonceS, nonceI]
                 first
                   | (rfl; done)
                   | (rw [if_neg (by omega)]; done)
                   | (rw [if_pos (by omega), List.take_of_length_le (by simp)]; done)
                   | (rw [if_pos (by omega)]; done))
          refine WL.callp hs (by rfl) (Yc.func (by rfl) fn193) (c_spec_FormatPolicy (⟨true, (x13.cut 1 x13.l.length), (x14.cut 1 x14.l.length), (x15.cut 1 x15.l.length), ([] : Str)⟩ : PPolicy) _ ⟨trivial, (Sl.Ok.cut (hs.okow (x := x13) (F := F13) (by repeat (first | exact List.mem_cons_self | apply List.mem_cons_of_mem))) (by rw [hx13]; exact List.length_pos_iff.2 (splitC_ne _ _)) (by exact Nat.le_refl _)), (Sl.Ok.cut (hs.okow (x := x14) (F := F14) (by repeat (first | exact List.mem_cons_self | apply List.mem_cons_of_mem))) (by rw [hx14]; exact List.length_pos_iff.2 (splitC_ne _ _)) (by exact Nat.le_refl _)), (Sl.Ok.cut (hs.okow (x := x15) (F := F15) (by repeat (first | exact List.mem_cons_self | apply List.mem_cons_of_mem))) (by rw [hx15]; exact List.length_pos_iff.2 (splitC_ne _ _)) (by exact Nat.le_refl _)), (show WfS [] from Nat.zero_le _)⟩ (by rw [hpl9]; have := polS_size (s := s) (by rw [← show x2.l = splitC 59 s from hx2]; omega); omega)) ?_
          clear hs; intro w hs
          refine WL.p (by rfl) (Yl.move (by rfl)) ?_
          refine WL.p (by rfl) (Yl.nes (by rfl) (by rfl)) ?_
          refine WL.next ?_
          refine WC.condS (by rfl) (fun h4 => ?_) (fun h4 => ?_)
          ·
            replace h4 := not_eq_true h4
            replace h4 := of_decide_eq_false h4
            refine WC.seq ?_
            refine WL.p (by rfl) (Yl.build bt63 (by rfl) (by repeat (first | exact Fill.nil | (apply Fill.cons; rfl; rfl; rfl; repeat (first | (apply SetAt.here; repeat (first | exact Over.nil | apply Over.cons)) | apply SetAt.there))))) ?_
            refine WL.s (Yr.storeB hs (by rfl) (by rfl) (by rfl) (by repeat (first | exact Repl.here | apply Repl.there)) (by repeat (first | (apply SetAt.here; repeat (first | exact Over.nil | apply Over.cons)) | apply SetAt.there)) (by rfl) (by exact szf63)) ?_
            clear hs; rintro _ w hs
            refine WL.p (by rfl) (Yl.assign (by rfl)) ?_
            refine WL.next ?_
            refine WC.ret ?_
            refine At.thenret ?_
            refine fin2c rfl agg63 (by rfl) (by rfl) hs (by repeat (first | exact List.mem_cons_self | apply List.mem_cons_of_mem)) (by rfl) ?_
            refine Ret.mk hs ?_
            rw [hpl9] at h4
            have hb9 : policyIs s = false := policyIs_bad h1 h4
            exact ⟨⟨false, ⟨[], none, 0⟩, ⟨[], none, 0⟩, ⟨[], none, 0⟩, []⟩, by rw [hb9]; rfl, (policyOf_no (.inr hb9)).symm, ⟨⟨[], PPolicy.zown _, .nil, fun b h => by cases h⟩⟩⟩
          ·
            replace h4 := not_eq_false h4
            replace h4 := of_decide_eq_true h4
            refine WC.skipn ?_
            refine WC.seq ?_
            refine WL.p (by rfl) (Yl.loadAB agg63 (by rfl) hs (by repeat (first | exact List.mem_cons_self | apply List.mem_cons_of_mem)) (by rfl) (by rfl)) ?_
            refine WL.s (Yr.storeB hs (by rfl) (by rfl) (by rfl) (by repeat (first | exact Repl.here | apply Repl.there)) (by repeat (first | (apply SetAt.here; repeat (first | exact Over.nil | apply Over.cons)) | apply SetAt.there)) (by rfl) (by exact szf63)) ?_
            clear hs; rintro _ w hs
            refine WL.p (by rfl) (Yl.assign (by rfl)) ?_
            refine WL.next ?_
            refine WC.ret ?_
            refine fin2c rfl agg63 (by rfl) (by rfl) hs (by repeat (first | exact List.mem_cons_self | apply List.mem_cons_of_mem)) (by rfl) ?_
            refine Ret.mk hs ?_
            rw [hpl9] at h4
            have hq9 : x2.l = splitC 59 s := hx2
            have h49 : 3 ≤ (splitC 59 s).length := by rw [← hq9]; omega
            have hb9 : policyIs s = true := policyIs_good h4 h49
            obtain ⟨G90, hs⟩ := Sat.cutow (lo := 1) (hi := x13.l.length) (hs.sel (D := [ow x13 F13]) (by repeat (first | exact Sel.nil | (apply Sel.cons; (repeat (first | exact Ext.here | apply Ext.there)))))) (by rw [hx13]; exact List.length_pos_iff.2 (splitC_ne _ _)) (Nat.le_refl _)
            obtain ⟨G91, hs⟩ := Sat.cutow (lo := 1) (hi := x14.l.length) (hs.sel (D := [ow x14 F14]) (by repeat (first | exact Sel.nil | (apply Sel.cons; (repeat (first | exact Ext.here | apply Ext.there)))))) (by rw [hx14]; exact List.length_pos_iff.2 (splitC_ne _ _)) (Nat.le_refl _)
            obtain ⟨G92, hs⟩ := Sat.cutow (lo := 1) (hi := x15.l.length) (hs.sel (D := [ow x15 F15]) (by repeat (first | exact Sel.nil | (apply Sel.cons; (repeat (first | exact Ext.here | apply Ext.there)))))) (by rw [hx15]; exact List.length_pos_iff.2 (splitC_ne _ _)) (Nat.le_refl _)
            refine ⟨(⟨true, (x13.cut 1 x13.l.length), (x14.cut 1 x14.l.length), (x15.cut 1 x15.l.length), ([] : Str)⟩ : PPolicy), by rw [hb9]; rfl, hpl9.trans (policyOf_good h1 hb9).symm, ?_⟩
            exact (PPolicy.join _ (hs.only (D := [ow (x13.cut 1 x13.l.length) G90, ow (x14.cut 1 x14.l.length) G91, ow (x15.cut 1 x15.l.length) G92]) (by repeat (first | exact Sel.nil | (apply Sel.cons; (repeat (first | exact Ext.here | apply Ext.there)))))) trivial (by show WfS _; unfold WfS; first | (simp only [List.length_take, List.length_drop]; omega) | simp)).fresh List.mem_cons_self

theorem c_spec_IsResponse (x : TResponse) (w : World) (h_x : Ph.ok w x) (hb : x.policy.length ≤ 1048576) : Calls Tryz.prog 93 [.agg #[I x.status, I x.kind, S x.body, I x.age, Bo x.shares, S x.policy]].toArray w (RetP w (Bo x.isv)) := by
  refine enterN 33 Tryz.func93 rfl rfl rfl ?_
  have hs := Sat.start w
  refine WC.seq ?_
  refine WL.r (by rfl) (Yr.box hs (by rfl) (by rfl)) ?_
  clear hs; rintro _ w ⟨b1, rfl, hb, hs⟩; clear hb
  refine WL.p (by rfl) (Yl.assign (by rfl)) ?_
  refine WL.next ?_
  refine WC.seq ?_
  refine WL.p (by rfl) (Yl.fieldAddr fa41_5 (by rfl)) ?_
  refine WL.p (by rfl) (Yl.loadB sca9 (by rfl) hs (by repeat (first | exact List.mem_cons_self | apply List.mem_cons_of_mem)) (by rfl)) ?_
  refine WL.call hs (by rfl) (Yc.func (by rfl) fn160) (c_spec_ParsePolicy _ _ (by first | assumption | omega | (simp only [lsz] at *; omega) | (simp only [lsz, strsz, TPolicy.size, TCache.size, TAddr.size, TRequest.size, TEntry.size, TResponse.size, TLine.size] at *; omega) | (simp only [lsz_map, TPage.size, TBuilder.size, TNode.size, TToken.size, TTokenizer.size, TServer.size, TFile.size, TNet.size, TCache.size, TSheet.size, strsz] at *; omega) | (simp only [lsz_map, TPage.size, TBuilder.size, TNode.size, TToken.size, TTokenizer.size, TServer.size, TFile.size, TNet.size, TCache.size, TSheet.size, strsz, lsz] at *; omega))) ?_
  have hs0 := hs; clear hs; intro v w hb hR hs; clear hs
  obtain ⟨x2, rfl, hx2, hf2⟩ := hR
  obtain ⟨F2, hs⟩ := hf2.sat hs0 hb; clear hs0 hf2
  refine WL.p (by rfl) (Yl.move (by rfl)) ?_
  refine WL.p (by rfl) (Yl.extract (by rfl) (by rfl)) ?_
  refine WL.p (by rfl) (Yl.extract (by rfl) (by rfl)) ?_
  refine WL.r (by rfl) (Yr.alloc hs zt63) ?_
  clear hs; rintro _ w ⟨b3, rfl, hb, hs⟩; clear hb
  refine WL.s (Yr.storeB hs (by rfl) (by rfl) (by rfl) (by repeat (first | exact Repl.here | apply Repl.there)) (by repeat (first | (apply SetAt.here; repeat (first | exact Over.nil | apply Over.cons)) | apply SetAt.there)) (by rfl) (by exact szf63)) ?_
  clear hs; rintro _ w hs
  refine WL.p (by rfl) (Yl.assign (by rfl)) ?_
  refine WL.next ?_
  refine WC.seq ?_
  refine WL.p (by rfl) (Yl.fieldAddr fa41_0 (by rfl)) ?_
  refine WL.p (by rfl) (Yl.loadB sca3 (by rfl) hs (by repeat (first | exact List.mem_cons_self | apply List.mem_cons_of_mem)) (by rfl)) ?_
  refine WL.callp hs (by rfl) (Yc.func (by rfl) fn87) (c_spec_l1In _ _ _ _) ?_
  clear hs; intro w hs
  refine WL.p (by rfl) (Yl.move (by rfl)) ?_
  refine WL.split (d := 14) (by rfl) (fun h1 => ?_) (fun h1 => ?_)
  ·
    replace h1 := inR_true.1 h1
    refine WL.run (d := 14) (by rfl) (by rfl) ?_
    refine WL.p (by rfl) (Yl.fieldAddr fa41_1 (by rfl)) ?_
    refine WL.run (d := 14) (by rfl) (by rfl) ?_
    refine WL.p (by rfl) (Yl.loadB sca3 (by rfl) hs (by repeat (first | exact List.mem_cons_self | apply List.mem_cons_of_mem)) (by rfl)) ?_
    refine WL.run (d := 14) (by rfl) (by rfl) ?_
    refine WL.callp hs (by rfl) (Yc.func (by rfl) fn87) (c_spec_l1In _ _ _ _) ?_
    clear hs; intro w hs
    refine WL.p (by rfl) (Yl.pickT (by rfl) (by rfl)) ?_
    refine WL.p (by rfl) (Yl.move (by rfl)) ?_
    refine WL.split (d := 19) (by rfl) (fun h2 => ?_) (fun h2 => ?_)
    ·
      replace h2 := inR_true.1 h2
      refine WL.run (d := 19) (by rfl) (by rfl) ?_
      refine WL.p (by rfl) (Yl.fieldAddr fa41_2 (by rfl)) ?_
      refine WL.run (d := 19) (by rfl) (by rfl) ?_
      refine WL.p (by rfl) (Yl.loadB sca9 (by rfl) hs (by repeat (first | exact List.mem_cons_self | apply List.mem_cons_of_mem)) (by rfl)) ?_
      refine WL.run (d := 19) (by rfl) (by rfl) ?_
      refine WL.p (by rfl) (Yl.len_str str9 (by rfl)) ?_
      refine WL.run (d := 19) (by rfl) (by rfl) ?_
      refine WL.p (by rfl) (Yl.leq (by rfl) (by rfl)) ?_
      refine WL.p (by rfl) (Yl.pickT (by rfl) (by rfl)) ?_
      refine WL.p (by rfl) (Yl.move (by rfl)) ?_
      refine WL.split (d := 25) (by rfl) (fun h3 => ?_) (fun h3 => ?_)
      ·
        replace h3 := of_decide_eq_true h3
        refine WL.run (d := 25) (by rfl) (by rfl) ?_
        refine WL.p (by rfl) (Yl.fieldAddr fa41_3 (by rfl)) ?_
        refine WL.run (d := 25) (by rfl) (by rfl) ?_
        refine WL.p (by rfl) (Yl.loadB sca3 (by rfl) hs (by repeat (first | exact List.mem_cons_self | apply List.mem_cons_of_mem)) (by rfl)) ?_
        refine WL.run (d := 25) (by rfl) (by rfl) ?_
        refine WL.callp hs (by rfl) (Yc.func (by rfl) fn87) (c_spec_l1In _ _ _ _) ?_
        clear hs; intro w hs
        refine WL.p (by rfl) (Yl.pickT (by rfl) (by rfl)) ?_
        refine WL.p (by rfl) (Yl.move (by rfl)) ?_
        refine WL.split (d := 30) (by rfl) (fun h4 => ?_) (fun h4 => ?_)
        ·
          replace h4 := inR_true.1 h4
          refine WL.run (d := 30) (by rfl) (by rfl) ?_
          refine WL.p (by rfl) (Yl.move (by rfl)) ?_
          refine WL.p (by rfl) (Yl.pickT (by rfl) (by rfl)) ?_
          refine WL.p (by rfl) (Yl.assign (by rfl)) ?_
          refine WL.next ?_
          refine WC.ret ?_
          refine fin1' rfl (by rfl) ?_
          refine RetP.mk hs ?_
          clear hs hb h_x
          try simp only [← inR_true] at *
          try simp only [← inR_false] at *
          simp_all [TResponse.isv]
          try (intro hh; omega)
        ·
          replace h4 := inR_false.1 h4
          refine WL.skip (d := 30) (by rfl) (by rfl) (by rfl) (by rfl) ?_
          refine WL.p (by rfl) (Yl.pickF (by rfl) (by rfl)) ?_
          refine WL.p (by rfl) (Yl.assign (by rfl)) ?_
          refine WL.next ?_
          refine WC.ret ?_
          refine fin1' rfl (by rfl) ?_
          refine RetP.mk hs ?_
          clear hs hb h_x
          try simp only [← inR_true] at *
          try simp only [← inR_false] at *
          simp_all [TResponse.isv]
          try (intro hh; omega)
      ·
        replace h3 := of_decide_eq_false h3
        refine WL.skip (d := 25) (by rfl) (by rfl) (by rfl) (by rfl) ?_
        refine WL.skip (d := 25) (by rfl) (by rfl) (by rfl) (by rfl) ?_
        refine WL.skip (d := 25) (by rfl) (by rfl) (by rfl) (by rfl) ?_
        refine WL.p (by rfl) (Yl.pickF (by rfl) (by rfl)) ?_
        refine WL.p (by rfl) (Yl.move (by rfl)) ?_
        refine WL.skip (d := 30) (by rfl) (by rfl) (by rfl) (by rfl) ?_
        refine WL.p (by rfl) (Yl.pickF (by rfl) (by rfl)) ?_
        refine WL.p (by rfl) (Yl.assign (by rfl)) ?_
        refine WL.next ?_
        refine WC.ret ?_
        refine fin1' rfl (by rfl) ?_
        refine RetP.mk hs ?_
        clear hs hb h_x
        try simp only [← inR_true] at *
        try simp only [← inR_false] at *
        simp_all [TResponse.isv]
        try (intro hh; omega)
    ·
      replace h2 := inR_false.1 h2
      refine WL.skip (d := 19) (by rfl) (by rfl) (by rfl) (by rfl) ?_
      refine WL.skip (d := 19) (by rfl) (by rfl) (by rfl) (by rfl) ?_
      refine WL.skip (d := 19) (by rfl) (by rfl) (by rfl) (by rfl) ?_
      refine WL.skip (d := 19) (by rfl) (by rfl) (by rfl) (by rfl) ?_
      refine WL.p (by rfl) (Yl.pickF (by rfl) (by rfl)) ?_
      refine WL.p (by rfl) (Yl.move (by rfl)) ?_
      refine WL.skip (d := 25) (by rfl) (by rfl) (by rfl) (by rfl) ?_
      refine WL.skip (d := 25) (by rfl) (by rfl) (by rfl) (by rfl) ?_
      refine WL.skip (d := 25) (by rfl) (by rfl) (by rfl) (by rfl) ?_
      refine WL.p (by rfl) (Yl.pickF (by rfl) (by rfl)) ?_
      refine WL.p (by rfl) (Yl.move (by rfl)) ?_
      refine WL.skip (d := 30) (by rfl) (by rfl) (by rfl) (by rfl) ?_
      refine WL.p (by rfl) (Yl.pickF (by rfl) (by rfl)) ?_
      refine WL.p (by rfl) (Yl.assign (by rfl)) ?_
      refine WL.next ?_
      refine WC.ret ?_
      refine fin1' rfl (by rfl) ?_
      refine RetP.mk hs ?_
      clear hs hb h_x
      try simp only [← inR_true] at *
      try simp only [← inR_false] at *
      simp_all [TResponse.isv]
      try (intro hh; omega)
  ·
    replace h1 := inR_false.1 h1
    refine WL.skip (d := 14) (by rfl) (by rfl) (by rfl) (by rfl) ?_
    refine WL.skip (d := 14) (by rfl) (by rfl) (by rfl) (by rfl) ?_
    refine WL.skip (d := 14) (by rfl) (by rfl) (by rfl) (by rfl) ?_
    refine WL.p (by rfl) (Yl.pickF (by rfl) (by rfl)) ?_
    refine WL.p (by rfl) (Yl.move (by rfl)) ?_
    refine WL.skip (d := 19) (by rfl) (by rfl) (by rfl) (by rfl) ?_
    refine WL.skip (d := 19) (by rfl) (by rfl) (by rfl) (by rfl) ?_
    refine WL.skip (d := 19) (by rfl) (by rfl) (by rfl) (by rfl) ?_
    refine WL.skip (d := 19) (by rfl) (by rfl) (by rfl) (by rfl) ?_
    refine WL.p (by rfl) (Yl.pickF (by rfl) (by rfl)) ?_
    refine WL.p (by rfl) (Yl.move (by rfl)) ?_
    refine WL.skip (d := 25) (by rfl) (by rfl) (by rfl) (by rfl) ?_
    refine WL.skip (d := 25) (by rfl) (by rfl) (by rfl) (by rfl) ?_
    refine WL.skip (d := 25) (by rfl) (by rfl) (by rfl) (by rfl) ?_
    refine WL.p (by rfl) (Yl.pickF (by rfl) (by rfl)) ?_
    refine WL.p (by rfl) (Yl.move (by rfl)) ?_
    refine WL.skip (d := 30) (by rfl) (by rfl) (by rfl) (by rfl) ?_
    refine WL.p (by rfl) (Yl.pickF (by rfl) (by rfl)) ?_
    refine WL.p (by rfl) (Yl.assign (by rfl)) ?_
    refine WL.next ?_
    refine WC.ret ?_
    refine fin1' rfl (by rfl) ?_
    refine RetP.mk hs ?_
    clear hs hb h_x
    try simp only [← inR_true] at *
    try simp only [← inR_false] at *
    simp_all [TResponse.isv]
    try (intro hh; omega)

theorem c_spec_FitsKind (x : TResponse) (kind : Int) (w : World)   : Calls Tryz.prog 94 [.agg #[I x.status, I x.kind, S x.body, I x.age, Bo x.shares, S x.policy], I kind].toArray w (RetP w (Bo (fitsKind x.kind kind))) := by
  refine enterN 18 Tryz.func94 rfl rfl rfl ?_
  have hs := Sat.start w
  refine WC.seq ?_
  refine WL.r (by rfl) (Yr.box hs (by rfl) (by rfl)) ?_
  clear hs; rintro _ w ⟨b1, rfl, hb, hs⟩; clear hb
  refine WL.p (by rfl) (Yl.assign (by rfl)) ?_
  refine WL.next ?_
  refine WC.seq ?_
  refine WL.p (by rfl) (Yl.fieldAddr fa41_1 (by rfl)) ?_
  refine WL.p (by rfl) (Yl.loadB sca3 (by rfl) hs (by repeat (first | exact List.mem_cons_self | apply List.mem_cons_of_mem)) (by rfl)) ?_
  refine WL.p (by rfl) (Yl.move (by rfl)) ?_
  refine WL.p (by rfl) (Yl.eqi (by rfl) (by rfl)) ?_
  refine WL.p (by rfl) (Yl.move (by rfl)) ?_
  refine WL.split (d := 9) (by rfl) (fun h1 => ?_) (fun h1 => ?_)
  ·
    replace h1 := of_decide_eq_true h1
    refine WL.skip (d := 9) (by rfl) (by rfl) (by rfl) (by rfl) ?_
    refine WL.skip (d := 9) (by rfl) (by rfl) (by rfl) (by rfl) ?_
    refine WL.skip (d := 9) (by rfl) (by rfl) (by rfl) (by rfl) ?_
    refine WL.skipU (d := 12) (by rfl) (by rfl) (by rfl) ?_
    refine WL.skipU (d := 12) (by rfl) (by rfl) (by rfl) ?_
    refine WL.skipU (d := 12) (by rfl) (by rfl) (by rfl) ?_
    refine WL.skip (d := 9) (by rfl) (by rfl) (by rfl) (by rfl) ?_
    refine WL.p (by rfl) (Yl.pickT (by rfl) (by rfl)) ?_
    refine WL.p (by rfl) (Yl.assign (by rfl)) ?_
    refine WL.next ?_
    refine WC.ret ?_
    refine fin1' rfl (by rfl) ?_
    refine RetP.mk hs ?_
    simp_all [fitsKind]
  ·
    replace h1 := of_decide_eq_false h1
    refine WL.run (d := 9) (by rfl) (by rfl) ?_
    refine WL.p (by rfl) (Yl.move (by rfl)) ?_
    refine WL.run (d := 9) (by rfl) (by rfl) ?_
    refine WL.p (by rfl) (Yl.eqi (by rfl) (by rfl)) ?_
    refine WL.run (d := 9) (by rfl) (by rfl) ?_
    refine WL.p (by rfl) (Yl.move (by rfl)) ?_
    refine WL.split (d := 12) (by rfl) (fun h2 => ?_) (fun h2 => ?_)
    ·
      replace h2 := of_decide_eq_true h2
      refine WL.run (d := 12) (by rfl) (by rfl) ?_
      refine WL.p (by rfl) (Yl.fieldAddr fa41_1 (by rfl)) ?_
      refine WL.run (d := 12) (by rfl) (by rfl) ?_
      refine WL.p (by rfl) (Yl.loadB sca3 (by rfl) hs (by repeat (first | exact List.mem_cons_self | apply List.mem_cons_of_mem)) (by rfl)) ?_
      refine WL.run (d := 12) (by rfl) (by rfl) ?_
      refine WL.p (by rfl) (Yl.eqi (by rfl) (by rfl)) ?_
      refine WL.run (d := 9) (by rfl) (by rfl) ?_
      refine WL.p (by rfl) (Yl.pickT (by rfl) (by rfl)) ?_
      refine WL.p (by rfl) (Yl.pickF (by rfl) (by rfl)) ?_
      refine WL.p (by rfl) (Yl.assign (by rfl)) ?_
      refine WL.next ?_
      refine WC.ret ?_
      refine fin1' rfl (by rfl) ?_
      refine RetP.mk hs ?_
      simp_all [fitsKind]
    ·
      replace h2 := of_decide_eq_false h2
      refine WL.skip (d := 12) (by rfl) (by rfl) (by rfl) (by rfl) ?_
      refine WL.skip (d := 12) (by rfl) (by rfl) (by rfl) (by rfl) ?_
      refine WL.skip (d := 12) (by rfl) (by rfl) (by rfl) (by rfl) ?_
      refine WL.run (d := 9) (by rfl) (by rfl) ?_
      refine WL.p (by rfl) (Yl.pickF (by rfl) (by rfl)) ?_
      refine WL.p (by rfl) (Yl.pickF (by rfl) (by rfl)) ?_
      refine WL.p (by rfl) (Yl.assign (by rfl)) ?_
      refine WL.next ?_
      refine WC.ret ?_
      refine fin1' rfl (by rfl) ?_
      refine RetP.mk hs ?_
      simp_all [fitsKind]

theorem c_spec_FormatInt (n : Int) (w : World) (h_n : Ph.ok w n)  : Calls Tryz.prog 107 [I n].toArray w (RetP w (S (Lib.itoa n))) := by
  refine enterN 31 Tryz.func107 rfl rfl rfl ?_
  have hs := Sat.start w
  refine WC.seq ?_
  refine WL.p (by rfl) (Yl.assign (by rfl)) ?_
  refine WL.next ?_
  refine WC.seq' ?_
  refine WC.seq ?_
  refine WL.p (by rfl) (Yl.move (by rfl)) ?_
  refine WL.p (by rfl) (Yl.eqi (by rfl) (by rfl)) ?_
  refine WL.next ?_
  refine WC.condS (by rfl) (fun h1 => ?_) (fun h1 => ?_)
  ·
    replace h1 := of_decide_eq_true h1
    refine WC.seq ?_
    refine WL.p (by rfl) (Yl.assign (by rfl)) ?_
    refine WL.next ?_
    refine WC.ret ?_
    refine At.thenret ?_
    refine fin1' rfl (by rfl) ?_
    refine RetP.mk hs ?_
    rw [h1, itoa_zero]
  ·
    replace h1 := of_decide_eq_false h1
    refine WC.skipn ?_
    refine WC.seq ?_
    refine WL.p (by rfl) (Yl.assign (by rfl)) ?_
    refine WL.next ?_
    refine WC.seq' ?_
    refine WC.seq ?_
    refine WL.p (by rfl) (Yl.move (by rfl)) ?_
    refine WL.p (by rfl) (Yl.assign (by rfl)) ?_
    refine WL.next ?_
    refine WC.block ?_
    refine WC.loopC (ι := Int × Str) (fun ⟨x, q⟩ => x.natAbs) (fun ⟨x, q⟩ => [(4, I x), (3, S q)]) (fun _ => []) (fun ⟨x, q⟩ => -9223372036854775808 ≤ x ∧ x ≤ 9223372036854775807 ∧ dig0 n.natAbs = dig0 x.natAbs ++ q) [(0, _), (2, _), (6, _), (7, _), (8, _)] (n, []) (hs) ⟨by rfl, by rfl, by rfl, by rfl, by rfl, trivial⟩ ⟨by rfl, by rfl, trivial⟩ ?_ ?_
    ·
      exact ⟨h_n.lo, h_n.hi, by simp⟩
    clear hs; rintro ⟨x, q⟩ w ⟨hJ1, hJ2, hJ3⟩ hs
    simp only [List.nil_append] at hs
    refine WC.seq' ?_
    refine WC.seq ?_
    refine WL.p (by rfl) (Yl.move (by rfl)) ?_
    refine WL.p (by rfl) (Yl.nei (by rfl) (by rfl)) ?_
    refine WL.next ?_
    refine WC.condS (by rfl) (fun h2 => ?_) (fun h2 => ?_)
    ·
      replace h2 := not_eq_true h2
      replace h2 := of_decide_eq_false h2
      refine WC.skipn ?_
      refine WC.seq' ?_
      refine WC.block ?_
      refine WC.seq ?_
      refine WL.p (by rfl) (Yl.move (by rfl)) ?_
      refine WL.p (by rfl) (Yl.remw (by rfl) (by rfl) (by decide)) ?_
      refine WL.p (by rfl) (Yl.assign (by rfl)) ?_
      refine WL.next ?_
      refine WC.seq' ?_
      refine WC.seq ?_
      refine WL.p (by rfl) (Yl.move (by rfl)) ?_
      refine WL.p (by rfl) (Yl.lss (by rfl) (by rfl)) ?_
      refine WL.next ?_
      refine WC.condS (by rfl) (fun h3 => ?_) (fun h3 => ?_)
      ·
        replace h3 := of_decide_eq_true h3
        refine WC.region ?_
        refine WL.p (by rfl) (Yl.move (by rfl)) ?_
        refine WL.p (by rfl) (Yl.neg (by rfl)) ?_
        refine WL.p (by rfl) (Yl.assign (by rfl)) ?_
        refine WL.nil ?_
        refine At.then_ ?_
        refine WC.region ?_
        refine WL.p (by rfl) (Yl.move (by rfl)) ?_
        refine WL.p (by rfl) (Yl.add (by rfl) (by rfl) (by first | (have e9 := tmod10_abs x; first | omega | (rw [wrap_in (by omega)]; omega)) | (have e8 := congrArg List.length hJ3; have e7 := dig0_len n.natAbs; have e5 := h_n.lo; have e6 := h_n.hi; simp only [List.length_append, List.length_cons, List.length_nil] at *; omega))) ?_
        refine WL.p (by rfl) (Yl.intByte (c := UInt8.ofNat (48 + x.natAbs % 10)) (by kernel_rfl) u8t5 (by rfl) (by rw [digit_nat]; have e9 := tmod10_abs x; first | omega | (rw [wrap_in (by omega)]; omega))) ?_
        refine WL.r (by rfl) (Yr.buildSlice hs sll211 (by rfl) (by rfl) (by rfl) (by repeat (first | exact Fill.nil | (apply Fill.cons; rfl; rfl; rfl; repeat (first | (apply SetAt.here; repeat (first | exact Over.nil | apply Over.cons)) | apply SetAt.there)))) (by rfl)) ?_
        clear hs; rintro _ w ⟨b1, rfl, hb, hs⟩; clear hb
        refine WL.p (by rfl) (Yl.bytesStr (l := [UInt8.ofNat (48 + x.natAbs % 10)]) slu211 u8t5 str9 (by rfl) (hs.box_cells (by repeat (first | exact List.mem_cons_self | apply List.mem_cons_of_mem))) (by rfl) (by rfl)) ?_
        refine WL.p (by rfl) (Yl.move (by rfl)) ?_
        refine WL.p (by rfl) (Yl.cat (by rfl) (by rfl) (by first | (have e9 := tmod10_abs x; first | omega | (rw [wrap_in (by omega)]; omega)) | (have e8 := congrArg List.length hJ3; have e7 := dig0_len n.natAbs; have e5 := h_n.lo; have e6 := h_n.hi; simp only [List.length_append, List.length_cons, List.length_nil] at *; omega))) ?_
        refine WL.p (by rfl) (Yl.assign (by rfl)) ?_
        refine WL.nil ?_
        refine At.blocknormal ?_
        refine At.then_ ?_
        refine WC.region ?_
        refine WL.p (by rfl) (Yl.move (by rfl)) ?_
        refine WL.p (by rfl) (Yl.quow (by rfl) (by rfl) (by decide)) ?_
        refine WL.p (by rfl) (Yl.assign (by rfl)) ?_
        refine WL.nil ?_
        refine At.roundC (x.tdiv 10, UInt8.ofNat (48 + x.natAbs % 10) :: q) (hs.only (by repeat (first | exact Sel.nil | (apply Sel.cons; (repeat (first | exact Ext.here | apply Ext.there)))))) ⟨by rfl, by rfl, by rfl, by rfl, by rfl, trivial⟩ ⟨by exact congrArg (fun z => some (I z)) (quo_abs hJ1 hJ2), by rfl, trivial⟩ ?_ ?_
        ·
          show (x.tdiv 10).natAbs < x.natAbs
          rw [natAbs_tdiv10]; omega
        ·
          have e9 := natAbs_tdiv10 x
          exact ⟨by show _ ≤ x.tdiv 10; omega, by show x.tdiv 10 ≤ _; omega, by rw [natAbs_tdiv10, hJ3, dig0_step (show x.natAbs ≠ 0 by omega)]; simp⟩
      ·
        replace h3 := of_decide_eq_false h3
        refine WC.skipn ?_
        refine WC.region ?_
        refine WL.p (by rfl) (Yl.move (by rfl)) ?_
        refine WL.p (by rfl) (Yl.add (by rfl) (by rfl) (by first | (have e9 := tmod10_abs x; first | omega | (rw [wrap_in (by omega)]; omega)) | (have e8 := congrArg List.length hJ3; have e7 := dig0_len n.natAbs; have e5 := h_n.lo; have e6 := h_n.hi; simp only [List.length_append, List.length_cons, List.length_nil] at *; omega))) ?_
        refine WL.p (by rfl) (Yl.intByte (c := UInt8.ofNat (48 + x.natAbs % 10)) (by kernel_rfl) u8t5 (by rfl) (by rw [digit_nat]; have e9 := tmod10_abs x; first | omega | (rw [wrap_in (by omega)]; omega))) ?_
        refine WL.r (by rfl) (Yr.buildSlice hs sll211 (by rfl) (by rfl) (by rfl) (by repeat (first | exact Fill.nil | (apply Fill.cons; rfl; rfl; rfl; repeat (first | (apply SetAt.here; repeat (first | exact Over.nil | apply Over.cons)) | apply SetAt.there)))) (by rfl)) ?_
        clear hs; rintro _ w ⟨b2, rfl, hb, hs⟩; clear hb
        refine WL.p (by rfl) (Yl.bytesStr (l := [UInt8.ofNat (48 + x.natAbs % 10)]) slu211 u8t5 str9 (by rfl) (hs.box_cells (by repeat (first | exact List.mem_cons_self | apply List.mem_cons_of_mem))) (by rfl) (by rfl)) ?_
        refine WL.p (by rfl) (Yl.move (by rfl)) ?_
        refine WL.p (by rfl) (Yl.cat (by rfl) (by rfl) (by first | (have e9 := tmod10_abs x; first | omega | (rw [wrap_in (by omega)]; omega)) | (have e8 := congrArg List.length hJ3; have e7 := dig0_len n.natAbs; have e5 := h_n.lo; have e6 := h_n.hi; simp only [List.length_append, List.length_cons, List.length_nil] at *; omega))) ?_
        refine WL.p (by rfl) (Yl.assign (by rfl)) ?_
        refine WL.nil ?_
        refine At.blocknormal ?_
        refine At.then_ ?_
        refine WC.region ?_
        refine WL.p (by rfl) (Yl.move (by rfl)) ?_
        refine WL.p (by rfl) (Yl.quow (by rfl) (by rfl) (by decide)) ?_
        refine WL.p (by rfl) (Yl.assign (by rfl)) ?_
        refine WL.nil ?_
        refine At.roundC (x.tdiv 10, UInt8.ofNat (48 + x.natAbs % 10) :: q) (hs.only (by repeat (first | exact Sel.nil | (apply Sel.cons; (repeat (first | exact Ext.here | apply Ext.there)))))) ⟨by rfl, by rfl, by rfl, by rfl, by rfl, trivial⟩ ⟨by exact congrArg (fun z => some (I z)) (quo_abs hJ1 hJ2), by rfl, trivial⟩ ?_ ?_
        ·
          show (x.tdiv 10).natAbs < x.natAbs
          rw [natAbs_tdiv10]; omega
        ·
          have e9 := natAbs_tdiv10 x
          exact ⟨by show _ ≤ x.tdiv 10; omega, by show x.tdiv 10 ≤ _; omega, by rw [natAbs_tdiv10, hJ3, dig0_step (show x.natAbs ≠ 0 by omega)]; simp⟩
    ·
      replace h2 := not_eq_false h2
      replace h2 := of_decide_eq_true h2
      refine WC.exit ?_
      refine At.thenexit ?_
      refine At.thenexit ?_
      refine At.blockexit ?_
      refine At.then_ ?_
      refine WC.seq' ?_
      refine WC.seq ?_
      refine WL.p (by rfl) (Yl.move (by rfl)) ?_
      refine WL.p (by rfl) (Yl.lss (by rfl) (by rfl)) ?_
      refine WL.next ?_
      refine WC.condS (by rfl) (fun h3 => ?_) (fun h3 => ?_)
      ·
        replace h3 := of_decide_eq_true h3
        refine WC.seq ?_
        refine WL.p (by rfl) (Yl.move (by rfl)) ?_
        refine WL.p (by rfl) (Yl.cat (by rfl) (by rfl) (by first | (have e9 := tmod10_abs x; first | omega | (rw [wrap_in (by omega)]; omega)) | (have e8 := congrArg List.length hJ3; have e7 := dig0_len n.natAbs; have e5 := h_n.lo; have e6 := h_n.hi; simp only [List.length_append, List.length_cons, List.length_nil] at *; omega))) ?_
        refine WL.p (by rfl) (Yl.assign (by rfl)) ?_
        refine WL.next ?_
        refine WC.ret ?_
        refine At.thenret ?_
        refine fin1' rfl (by rfl) ?_
        refine RetP.mk hs ?_
        have hx0 : x = 0 := by omega
        subst hx0
        first
          | (rw [itoa_neg' (by omega), hJ3]; rfl)
          | (rw [itoa_pos (by omega) (by omega), hJ3]; rfl)
      ·
        replace h3 := of_decide_eq_false h3
        refine WC.skipn ?_
        refine WC.seq ?_
        refine WL.p (by rfl) (Yl.move (by rfl)) ?_
        refine WL.p (by rfl) (Yl.assign (by rfl)) ?_
        refine WL.next ?_
        refine WC.ret ?_
        refine fin1' rfl (by rfl) ?_
        refine RetP.mk hs ?_
        have hx0 : x = 0 := by omega
        subst hx0
        first
          | (rw [itoa_neg' (by omega), hJ3]; rfl)
          | (rw [itoa_pos (by omega) (by omega), hJ3]; rfl)

theorem c_spec_Mod (n : Int) (m : Int) (w : World)   : Calls Tryz.prog 218 [I n, I m].toArray w (RetP w (I (modZ n m))) := by
  refine enterN 15 Tryz.func218 rfl rfl rfl ?_
  have hs := Sat.start w
  refine WC.seq ?_
  refine WL.p (by rfl) (Yl.assign (by rfl)) ?_
  refine WL.next ?_
  refine WC.seq' ?_
  refine WC.seq ?_
  refine WL.p (by rfl) (Yl.move (by rfl)) ?_
  refine WL.callp hs (by rfl) (Yc.func (by rfl) fn87) (c_spec_l1In _ _ _ _) ?_
  clear hs; intro w hs
  refine WL.p (by rfl) (Yl.not (by rfl)) ?_
  refine WL.next ?_
  refine WC.condS (by rfl) (fun h1 => ?_) (fun h1 => ?_)
  ·
    replace h1 := not_eq_true h1
    replace h1 := inR_false.1 h1
    refine WC.seq ?_
    refine WL.p (by rfl) (Yl.assign (by rfl)) ?_
    refine WL.next ?_
    refine WC.ret ?_
    refine At.thenret ?_
    refine fin1' rfl (by rfl) ?_
    refine RetP.mk hs ?_
    rw [modZ_out (by omega)]
  ·
    replace h1 := not_eq_false h1
    replace h1 := inR_true.1 h1
    refine WC.skipn ?_
    refine WC.seq ?_
    refine WL.p (by rfl) (Yl.move (by rfl)) ?_
    refine WL.p (by rfl) (Yl.move (by rfl)) ?_
    refine WL.p (by rfl) (Yl.remw (by rfl) (by rfl) (by omega)) ?_
    refine WL.p (by rfl) (Yl.move (by rfl)) ?_
    refine WL.p (by rfl) (Yl.add (by rfl) (by rfl) (by have := tmod_or n (m := m) (by omega); omega)) ?_
    refine WL.p (by rfl) (Yl.move (by rfl)) ?_
    refine WL.p (by rfl) (Yl.remw (by rfl) (by rfl) (by omega)) ?_
    refine WL.p (by rfl) (Yl.assign (by rfl)) ?_
    refine WL.next ?_
    refine WC.ret ?_
    refine fin1' rfl (by rfl) ?_
    refine RetP.mk hs ?_
    rw [mod_twice _ (by omega), modZ, if_pos (by omega)]

theorem c_spec_Hash (l : (Sl Int)) (w : World) (h_l : Ph.ok w l)  : Calls Tryz.prog 194 [Sl.v l].toArray w (RetP w (I (hash l.l))) := by
  have hw := h_l.lt
  refine enterN 22 Tryz.func194 rfl rfl rfl ?_
  have hs := Sat.start w
  refine WC.seq ?_
  refine WL.p (by rfl) (Yl.assign (by rfl)) ?_
  refine WL.next ?_
  refine WC.seq ?_
  refine WL.p (by rfl) (Yl.assign (by rfl)) ?_
  refine WL.next ?_
  refine WC.seq' ?_
  refine WC.seq ?_
  refine WL.p (by rfl) (Yl.assign (by rfl)) ?_
  refine WL.next ?_
  refine WC.block ?_
  refine WC.loopC (ι := Nat × Int) (fun ⟨k, a⟩ => l.l.length - k) (fun ⟨k, a⟩ => [(4, I (k : Int)), (3, I a)]) (fun _ => []) (fun ⟨k, a⟩ => 0 ≤ a ∧ a < 2147483647 ∧ hash l.l = (l.l.drop k).foldl hashStep a) [(0, _), (2, _)] (0, 11) (hs) ⟨by rfl, by rfl, trivial⟩ ⟨by rfl, by rfl, trivial⟩ ?_ ?_
  ·
    exact ⟨by decide, by decide, by simp [hash]⟩
  clear hs; rintro ⟨k, a⟩ w ⟨hJ1, hJ2, hJ3⟩ hs
  simp only [List.nil_append] at hs
  refine WC.seq' ?_
  refine WC.seq ?_
  refine WL.p (by rfl) (Yl.move (by rfl)) ?_
  refine WL.p (by rfl) (Yl.move (by rfl)) ?_
  refine WL.p (by rfl) (Yl.len_sl slu74 (by rfl)) ?_
  refine WL.p (by rfl) (Yl.lss (by rfl) (by rfl)) ?_
  refine WL.next ?_
  refine WC.condS (by rfl) (fun h1 => ?_) (fun h1 => ?_)
  ·
    replace h1 := of_decide_eq_true h1
    obtain ⟨v, hd⟩ := exists_get (l := l.l) (k := k) (by omega)
    rw [drop_cons hd, List.foldl_cons] at hJ3
    have hmd := modZ_bd (n := v) (m := 2147483647) (by decide)
    have hst := hashStep_bd (v := v) hJ1
    refine WC.skipn ?_
    refine WC.seq' ?_
    refine WC.block ?_
    refine WC.region ?_
    refine WL.p (by rfl) (Yl.move (by rfl)) ?_
    refine WL.p (by rfl) (Yl.mul (by rfl) (by rfl) (by omega)) ?_
    refine WL.p (by rfl) (Yl.move (by rfl)) ?_
    refine WL.p (by rfl) (Yl.move (by rfl)) ?_
    refine WL.p (by rfl) (Yl.indexAddr slt74 (by rfl) (by rfl) (Ph.old h_l hs) (by rfl) (hd)) ?_
    refine WL.p (by rfl) (Yl.loadC0 sca3 (by rfl) (Sl.Ok.at_ (Ph.old h_l hs) (by assumption)).2 (by rfl)) ?_
    refine WL.callp hs (by rfl) (Yc.func (by rfl) fn218) (c_spec_Mod _ _ _) ?_
    clear hs; intro w hs
    refine WL.p (by rfl) (Yl.add (by rfl) (by rfl) (by omega)) ?_
    refine WL.p (by rfl) (Yl.add (by rfl) (by rfl) (by omega)) ?_
    refine WL.p (by rfl) (Yl.remw (by rfl) (by rfl) (by decide)) ?_
    refine WL.p (by rfl) (Yl.assign (by rfl)) ?_
    refine WL.nil ?_
    refine At.blocknormal ?_
    refine At.then_ ?_
    refine WC.region ?_
    refine WL.p (by rfl) (Yl.move (by rfl)) ?_
    refine WL.p (by rfl) (Yl.add (by rfl) (by rfl) (by omega)) ?_
    refine WL.p (by rfl) (Yl.assign (by rfl)) ?_
    refine WL.nil ?_
    refine At.roundC (k + 1, hashStep a v) (hs.only (by repeat (first | exact Sel.nil | (apply Sel.cons; (repeat (first | exact Ext.here | apply Ext.there)))))) ⟨by rfl, by rfl, trivial⟩ ⟨by rfl, by rfl, trivial⟩ ?_ ?_
    ·
      show l.l.length - (k + 1) < l.l.length - k
      omega
    ·
      exact ⟨hst.1, hst.2, hJ3⟩
  ·
    replace h1 := of_decide_eq_false h1
    rw [drop_out (l := l.l) (by omega)] at hJ3
    refine WC.exit ?_
    refine At.thenexit ?_
    refine At.thenexit ?_
    refine At.blockexit ?_
    refine At.then_ ?_
    refine WC.seq ?_
    refine WL.p (by rfl) (Yl.move (by rfl)) ?_
    refine WL.p (by rfl) (Yl.assign (by rfl)) ?_
    refine WL.next ?_
    refine WC.ret ?_
    refine fin1' rfl (by rfl) ?_
    refine RetP.mk hs ?_
    rw [hJ3]; rfl

theorem c_spec_BytesToInts (b : (Sl UInt8)) (w : World) (h_b : Ph.ok w b) (hb : b.l.length ≤ 1048576) : Calls Tryz.prog 195 [Sl.v b].toArray w (Ret w (fun v w' => ∃ x : Sl Int, v = x.v ∧ x.l = bytesInts b.l ∧ Fresh w x w')) := by
  have hw := h_b.lt
  refine enterN 23 Tryz.func195 rfl rfl rfl ?_
  have hs := Sat.start w
  refine WC.seq ?_
  refine WL.p (by rfl) (Yl.assign (by rfl)) ?_
  refine WL.next ?_
  refine WC.seq ?_
  refine WL.p (by rfl) (Yl.move (by rfl)) ?_
  refine WL.p (by rfl) (Yl.len_sl slu211 (by rfl)) ?_
  refine WL.r (by rfl) (Yr.buildSlice hs sll74 (by rfl) (by rfl) (by rfl) (by repeat (first | exact Fill.nil | (apply Fill.cons; rfl; rfl; rfl; repeat (first | (apply SetAt.here; repeat (first | exact Over.nil | apply Over.cons)) | apply SetAt.there)))) (by rfl)) ?_
  clear hs; rintro _ w ⟨b1, rfl, hb, hs⟩; clear hb
  refine WL.p (by rfl) (Yl.assign (by rfl)) ?_
  refine WL.next ?_
  refine WC.seq' ?_
  refine WC.seq ?_
  refine WL.p (by rfl) (Yl.assign (by rfl)) ?_
  refine WL.next ?_
  refine WC.block ?_
  replace hs := Sat.boxow (l := [(b.l.length : Int)]) hs rfl rfl (by simp [maxLen]) (ownL_mk_flat (by intro x hx; obtain rfl := List.mem_singleton.1 hx; exact ⟨by omega, by omega⟩))
  refine WC.loopC (ι := Nat × Sl Int × List Nat) (fun ⟨k, s, F⟩ => b.l.length - k) (fun ⟨k, s, F⟩ => [(4, I (k : Int)), (3, s.v)]) (fun ⟨k, s, F⟩ => [ow s F]) (fun ⟨k, s, F⟩ => k ≤ b.l.length ∧ s.l = (b.l.length : Int) :: (b.l.take k).map (fun c => (c.toNat : Int))) [(0, _), (2, _), (5, _), (6, _), (7, _)] (0, ⟨[(b.l.length : Int)], some ⟨b1, 0, none⟩, 1⟩, [b1]) (hs.sel (D := [ow (⟨[(b.l.length : Int)], some ⟨b1, 0, none⟩, 1⟩ : Sl Int) [b1]]) (by repeat (first | exact Sel.nil | (apply Sel.cons; (repeat (first | exact Ext.here | apply Ext.there)))))) ⟨by rfl, by rfl, by rfl, by rfl, by rfl, trivial⟩ ⟨by rfl, by rfl, trivial⟩ ?_ ?_
  ·
    exact ⟨Nat.zero_le _, by simp⟩
  clear hs; rintro ⟨k, s, F⟩ w ⟨hJ1, hJ2⟩ hs
  simp only [List.cons_append, List.nil_append] at hs
  refine WC.seq' ?_
  refine WC.seq ?_
  refine WL.p (by rfl) (Yl.move (by rfl)) ?_
  refine WL.p (by rfl) (Yl.move (by rfl)) ?_
  refine WL.p (by rfl) (Yl.len_sl slu211 (by rfl)) ?_
  refine WL.p (by rfl) (Yl.lss (by rfl) (by rfl)) ?_
  refine WL.next ?_
  refine WC.condS (by rfl) (fun h1 => ?_) (fun h1 => ?_)
  ·
    replace h1 := of_decide_eq_true h1
    obtain ⟨d, hd⟩ := exists_get (l := b.l) (k := k) (by omega)
    have htk : ((b.l.take k).map (fun c => (c.toNat : Int))).length = k := by simp; omega
    refine WC.skipn ?_
    refine WC.seq' ?_
    refine WC.block ?_
    refine WC.region ?_
    refine WL.p (by rfl) (Yl.move (by rfl)) ?_
    refine WL.p (by rfl) (Yl.move (by rfl)) ?_
    refine WL.p (by rfl) (Yl.move (by rfl)) ?_
    refine WL.p (by rfl) (Yl.indexAddr slt211 (by rfl) (by rfl) (Ph.old h_b hs) (by rfl) (hd)) ?_
    refine WL.p (by rfl) (Yl.loadC0 sca5 (by rfl) (Sl.Ok.at_ (Ph.old h_b hs) (by assumption)).2 (by rfl)) ?_
    refine WL.p (by rfl) (Yl.byteInt (by kernel_rfl) i64t3 (by rfl)) ?_
    refine WL.r (by rfl) (Yr.buildSlice hs sll74 (by rfl) (by rfl) (by rfl) (by repeat (first | exact Fill.nil | (apply Fill.cons; rfl; rfl; rfl; repeat (first | (apply SetAt.here; repeat (first | exact Over.nil | apply Over.cons)) | apply SetAt.there)))) (by rfl)) ?_
    clear hs; rintro _ w ⟨b2, rfl, hb, hs⟩; clear hb
    refine WL.r (by rfl) (Yr.append (s := s) (F := F) hs elt74 (by repeat (first | exact Sel.nil | (apply Sel.cons; (repeat (first | exact Ext.here | apply Ext.there))))) (by rfl) (by rfl) rfl (xs := [_]) (hs.box_cells (by repeat (first | exact List.mem_cons_self | apply List.mem_cons_of_mem))) (by intro x hx; obtain rfl := List.mem_singleton.1 hx; exact ⟨by have := d.toNat_lt; omega, by have := d.toNat_lt; omega⟩) (by rw [hJ2]; simp; unfold maxLen; omega) (by rw [hJ2]; simp; omega)) ?_
    clear hs; rintro _ w ⟨s3, F3, rfl, hl3, hs⟩
    refine WL.p (by rfl) (Yl.assign (by rfl)) ?_
    refine WL.nil ?_
    refine At.blocknormal ?_
    refine At.then_ ?_
    refine WC.region ?_
    refine WL.p (by rfl) (Yl.move (by rfl)) ?_
    refine WL.p (by rfl) (Yl.add (by rfl) (by rfl) (by omega)) ?_
    refine WL.p (by rfl) (Yl.assign (by rfl)) ?_
    refine WL.nil ?_
    refine At.roundC (k + 1, s3, F3) (hs.only (by repeat (first | exact Sel.nil | (apply Sel.cons; (repeat (first | exact Ext.here | apply Ext.there)))))) ⟨by rfl, by rfl, by rfl, by rfl, by rfl, trivial⟩ ⟨by rfl, by rfl, trivial⟩ ?_ ?_
    ·
      show b.l.length - (k + 1) < b.l.length - k
      omega
    ·
      exact ⟨by omega, by rw [hl3, hJ2, List.cons_append, take_map_step hd]⟩
  ·
    replace h1 := of_decide_eq_false h1
    refine WC.exit ?_
    refine At.thenexit ?_
    refine At.thenexit ?_
    refine At.blockexit ?_
    refine At.then_ ?_
    refine WC.seq ?_
    refine WL.p (by rfl) (Yl.move (by rfl)) ?_
    refine WL.p (by rfl) (Yl.assign (by rfl)) ?_
    refine WL.next ?_
    refine WC.ret ?_
    refine fin1' rfl (by rfl) ?_
    refine Ret.mk hs ?_
    exact ⟨s, rfl, by rw [hJ2, show k = b.l.length from by omega]; simp [bytesInts], hs.fresh (by repeat (first | exact List.mem_cons_self | apply List.mem_cons_of_mem))⟩

theorem c_spec_DigestOf (body : Str) (w : World) (h_body : Ph.ok w body) (hb : body.length ≤ 1048576) : Calls Tryz.prog 161 [S body].toArray w (RetP w (I (digestN body))) := by
  have hw : body.length ≤ 9223372036854775807 := h_body
  refine enterN 9 Tryz.func161 rfl rfl rfl ?_
  have hs := Sat.start w
  refine WC.seq ?_
  refine WL.p (by rfl) (Yl.assign (by rfl)) ?_
  refine WL.next ?_
  refine WC.seq ?_
  refine WL.r (by rfl) (Yr.buildSlice hs sll74 (by rfl) (by rfl) (by rfl) (by repeat (first | exact Fill.nil | (apply Fill.cons; rfl; rfl; rfl; repeat (first | (apply SetAt.here; repeat (first | exact Over.nil | apply Over.cons)) | apply SetAt.there)))) (by rfl)) ?_
  clear hs; rintro _ w ⟨b1, rfl, hb, hs⟩; clear hb
  refine WL.p (by rfl) (Yl.move (by rfl)) ?_
  refine WL.r (by rfl) (Yr.strBytes hs str9 slu211 u8t5 (by rfl) (by exact hw)) ?_
  clear hs; rintro _ w ⟨r2, b2, rfl, hl2, hb, hs⟩; clear hb
  refine WL.call hs (by rfl) (Yc.func (by rfl) fn195) (c_spec_BytesToInts _ _ (hs.okrd (s := r2) (b := b2) (by repeat (first | exact List.mem_cons_self | apply List.mem_cons_of_mem))) (by rw [hl2]; exact hb)) ?_
  have hs0 := hs; clear hs; intro v w hb hR hs; clear hs
  obtain ⟨x3, rfl, hx3, hf3⟩ := hR
  obtain ⟨F3, hs⟩ := hf3.sat hs0 hb; clear hs0 hf3
  have hle3 := Sl.Ok.le (hs.okow (x := x3) (F := F3) (by repeat (first | exact List.mem_cons_self | apply List.mem_cons_of_mem)))
  replace hs := (Sat.boxow (l := ([151] : List Int)) (hs.sel (D := [box b1 _ _]) (by repeat (first | exact Sel.nil | (apply Sel.cons; (repeat (first | exact Ext.here | apply Ext.there)))))) rfl rfl (by simp [maxLen]) (ownL_mk_flat (by intro x hx; obtain rfl := List.mem_singleton.1 hx; exact ⟨by decide, by decide⟩)))
  refine WL.r (by rfl) (Yr.appendS (s := (⟨[151], some ⟨b1, 0, none⟩, _⟩ : Sl Int)) (F := [b1]) (r := x3) hs elt74 (by repeat (first | exact Sel.nil | (apply Sel.cons; (repeat (first | exact Ext.here | apply Ext.there))))) (by rfl) (by rfl) (hs.okow (x := x3) (F := F3) (by repeat (first | exact List.mem_cons_self | apply List.mem_cons_of_mem))) (by rw [hx3, hl2]; simp [bytesInts]; unfold maxLen; omega) (by rw [hx3, hl2]; simp [bytesInts]; omega)) ?_
  clear hs; rintro _ w ⟨s4, F4, rfl, hl4, hs⟩
  refine WL.callp hs (by rfl) (Yc.func (by rfl) fn194) (c_spec_Hash _ _ (hs.okow (x := s4) (F := F4) (by repeat (first | exact List.mem_cons_self | apply List.mem_cons_of_mem)))) ?_
  clear hs; intro w hs
  refine WL.p (by rfl) (Yl.assign (by rfl)) ?_
  refine WL.next ?_
  refine WC.ret ?_
  refine fin1' rfl (by rfl) ?_
  refine RetP.mk hs ?_
  simp only [hl4, hx3, hl2]; rfl

theorem c_spec_CheckDigest (body : Str) (value : Str) (w : World) (h_body : Ph.ok w body) (hb : body.length ≤ 1048576) : Calls Tryz.prog 95 [S body, S value].toArray w (RetP w (Bo (checkDigest body value))) := by
  refine enterN 14 Tryz.func95 rfl rfl rfl ?_
  have hs := Sat.start w
  refine WC.seq ?_
  refine WL.p (by rfl) (Yl.assign (by rfl)) ?_
  refine WL.next ?_
  refine WC.seq ?_
  refine WL.p (by rfl) (Yl.move (by rfl)) ?_
  refine WL.p (by rfl) (Yl.eqs (by rfl) (by rfl)) ?_
  refine WL.p (by rfl) (Yl.move (by rfl)) ?_
  refine WL.split (d := 7) (by rfl) (fun h1 => ?_) (fun h1 => ?_)
  ·
    replace h1 := of_decide_eq_true h1
    refine WL.skip (d := 7) (by rfl) (by rfl) (by rfl) (by rfl) ?_
    refine WL.skip (d := 7) (by rfl) (by rfl) (by rfl) (by rfl) ?_
    refine WL.skip (d := 7) (by rfl) (by rfl) (by rfl) (by rfl) ?_
    refine WL.skip (d := 7) (by rfl) (by rfl) (by rfl) (by rfl) ?_
    refine WL.skip (d := 7) (by rfl) (by rfl) (by rfl) (by rfl) ?_
    refine WL.p (by rfl) (Yl.pickT (by rfl) (by rfl)) ?_
    refine WL.p (by rfl) (Yl.assign (by rfl)) ?_
    refine WL.next ?_
    refine WC.ret ?_
    refine fin1' rfl (by rfl) ?_
    refine RetP.mk hs ?_
    simp_all [checkDigest]
  ·
    replace h1 := of_decide_eq_false h1
    refine WL.run (d := 7) (by rfl) (by rfl) ?_
    refine WL.p (by rfl) (Yl.move (by rfl)) ?_
    refine WL.run (d := 7) (by rfl) (by rfl) ?_
    refine WL.p (by rfl) (Yl.move (by rfl)) ?_
    refine WL.run (d := 7) (by rfl) (by rfl) ?_
    refine WL.callp hs (by rfl) (Yc.func (by rfl) fn161) (c_spec_DigestOf _ _ (Ph.old h_body hs) (by first | assumption | omega | (simp only [lsz] at *; omega) | (simp only [lsz, strsz, TPolicy.size, TCache.size, TAddr.size, TRequest.size, TEntry.size, TResponse.size, TLine.size] at *; omega) | (simp only [lsz_map, TPage.size, TBuilder.size, TNode.size, TToken.size, TTokenizer.size, TServer.size, TFile.size, TNet.size, TCache.size, TSheet.size, strsz] at *; omega) | (simp only [lsz_map, TPage.size, TBuilder.size, TNode.size, TToken.size, TTokenizer.size, TServer.size, TFile.size, TNet.size, TCache.size, TSheet.size, strsz, lsz] at *; omega))) ?_
    clear hs; intro w hs
    refine WL.run (d := 7) (by rfl) (by rfl) ?_
    refine WL.callp hs (by rfl) (Yc.func (by rfl) fn107) (c_spec_FormatInt _ _ (digestN_wf _)) ?_
    clear hs; intro w hs
    refine WL.run (d := 7) (by rfl) (by rfl) ?_
    refine WL.p (by rfl) (Yl.eqs (by rfl) (by rfl)) ?_
    refine WL.p (by rfl) (Yl.pickF (by rfl) (by rfl)) ?_
    refine WL.p (by rfl) (Yl.assign (by rfl)) ?_
    refine WL.next ?_
    refine WC.ret ?_
    refine fin1' rfl (by rfl) ?_
    refine RetP.mk hs ?_
    simp_all [checkDigest]

theorem c_spec_CheckResponse (p : PPolicy) (r : TRequest) (x : TResponse) (w : World) (h_p : Ph.ok w p) (h_r : Ph.ok w r) (h_x : Ph.ok w x) (hb : x.policy.length ≤ 1048576) (hb2 : x.body.length ≤ 1048576) : Calls Tryz.prog 26 [.agg #[Bo p.set, Sl.v p.scripts, Sl.v p.styles, Sl.v p.images, S p.nonce], .agg #[I r.kind, S r.to.host, S r.to.path, S r.frm, S r.digest], .agg #[I x.status, I x.kind, S x.body, I x.age, Bo x.shares, S x.policy]].toArray w (RetP w (I (checkResp p.lg r x))) := by
  refine enterN 56 Tryz.func26 rfl rfl rfl ?_
  have hs := Sat.start w
  refine WC.seq ?_
  refine WL.r (by rfl) (Yr.box hs (by rfl) (by rfl)) ?_
  clear hs; rintro _ w ⟨b1, rfl, hb, hs⟩; clear hb
  refine WL.r (by rfl) (Yr.box hs (by rfl) (by rfl)) ?_
  clear hs; rintro _ w ⟨b2, rfl, hb, hs⟩; clear hb
  refine WL.r (by rfl) (Yr.box hs (by rfl) (by rfl)) ?_
  clear hs; rintro _ w ⟨b3, rfl, hb, hs⟩; clear hb
  refine WL.p (by rfl) (Yl.assign (by rfl)) ?_
  refine WL.next ?_
  refine WC.seq' ?_
  refine WC.block ?_
  refine WC.seq ?_
  refine WL.p (by rfl) (Yl.loadAB agg63 (by rfl) hs (by repeat (first | exact List.mem_cons_self | apply List.mem_cons_of_mem)) (by rfl) (by rfl)) ?_
  refine WL.p (by rfl) (Yl.loadAB agg66 (by rfl) hs (by repeat (first | exact List.mem_cons_self | apply List.mem_cons_of_mem)) (by rfl) (by rfl)) ?_
  refine WL.callp hs (by rfl) (Yc.func (by rfl) fn92) (c_spec_CheckRequest _ _ _ (Ph.old h_p hs) (Ph.old h_r hs)) ?_
  clear hs; intro w hs
  refine WL.p (by rfl) (Yl.nei (by rfl) (by rfl)) ?_
  refine WL.p (by rfl) (Yl.assign (by rfl)) ?_
  refine WL.next ?_
  refine WC.condS (by rfl) (fun h1 => ?_) (fun h1 => ?_)
  ·
    replace h1 := not_eq_true h1
    replace h1 := of_decide_eq_false h1
    refine WC.seq ?_
    refine WL.p (by rfl) (Yl.assign (by rfl)) ?_
    refine WL.next ?_
    refine WC.ret ?_
    refine At.blockret ?_
    refine At.thenret ?_
    refine fin1' rfl (by rfl) ?_
    refine RetP.mk hs ?_
    have e9_ := checkReq_or p.lg r
    simp_all [checkResp]
  ·
    replace h1 := not_eq_false h1
    replace h1 := of_decide_eq_true h1
    refine WC.seq ?_
    refine WL.p (by rfl) (Yl.loadAB agg41 (by rfl) hs (by repeat (first | exact List.mem_cons_self | apply List.mem_cons_of_mem)) (by rfl) (by rfl)) ?_
    refine WL.callp hs (by rfl) (Yc.func (by rfl) fn93) (c_spec_IsResponse _ _ (Ph.old h_x hs) (by exact hb)) ?_
    clear hs; intro w hs
    refine WL.p (by rfl) (Yl.not (by rfl)) ?_
    refine WL.p (by rfl) (Yl.move (by rfl)) ?_
    refine WL.split (d := 16) (by rfl) (fun h2 => ?_) (fun h2 => ?_)
    ·
      replace h2 := not_eq_true h2
      refine WL.skip (d := 16) (by rfl) (by rfl) (by rfl) (by rfl) ?_
      refine WL.skip (d := 16) (by rfl) (by rfl) (by rfl) (by rfl) ?_
      refine WL.skip (d := 16) (by rfl) (by rfl) (by rfl) (by rfl) ?_
      refine WL.p (by rfl) (Yl.pickT (by rfl) (by rfl)) ?_
      refine WL.p (by rfl) (Yl.assign (by rfl)) ?_
      refine WL.next ?_
      refine WC.condT (by rfl) ?_
      refine WC.seq ?_
      refine WL.p (by rfl) (Yl.assign (by rfl)) ?_
      refine WL.next ?_
      refine WC.ret ?_
      refine At.blockret ?_
      refine At.thenret ?_
      refine fin1' rfl (by rfl) ?_
      refine RetP.mk hs ?_
      have e9_ := checkReq_or p.lg r
      simp_all [checkResp]
    ·
      replace h2 := not_eq_false h2
      refine WL.run (d := 16) (by rfl) (by rfl) ?_
      refine WL.p (by rfl) (Yl.fieldAddr fa41_0 (by rfl)) ?_
      refine WL.run (d := 16) (by rfl) (by rfl) ?_
      refine WL.p (by rfl) (Yl.loadB sca3 (by rfl) hs (by repeat (first | exact List.mem_cons_self | apply List.mem_cons_of_mem)) (by rfl)) ?_
      refine WL.run (d := 16) (by rfl) (by rfl) ?_
      refine WL.p (by rfl) (Yl.nei (by rfl) (by rfl)) ?_
      refine WL.p (by rfl) (Yl.pickF (by rfl) (by rfl)) ?_
      refine WL.p (by rfl) (Yl.assign (by rfl)) ?_
      refine WL.next ?_
      refine WC.condS (by rfl) (fun h3 => ?_) (fun h3 => ?_)
      ·
        replace h3 := not_eq_true h3
        replace h3 := of_decide_eq_false h3
        refine WC.seq ?_
        refine WL.p (by rfl) (Yl.assign (by rfl)) ?_
        refine WL.next ?_
        refine WC.ret ?_
        refine At.blockret ?_
        refine At.thenret ?_
        refine fin1' rfl (by rfl) ?_
        refine RetP.mk hs ?_
        have e9_ := checkReq_or p.lg r
        simp_all [checkResp]
      ·
        replace h3 := not_eq_false h3
        replace h3 := of_decide_eq_true h3
        refine WC.seq ?_
        refine WL.p (by rfl) (Yl.loadAB agg41 (by rfl) hs (by repeat (first | exact List.mem_cons_self | apply List.mem_cons_of_mem)) (by rfl) (by rfl)) ?_
        refine WL.p (by rfl) (Yl.fieldAddr fa66_0 (by rfl)) ?_
        refine WL.p (by rfl) (Yl.loadB sca3 (by rfl) hs (by repeat (first | exact List.mem_cons_self | apply List.mem_cons_of_mem)) (by rfl)) ?_
        refine WL.callp hs (by rfl) (Yc.func (by rfl) fn94) (c_spec_FitsKind _ _ _) ?_
        clear hs; intro w hs
        refine WL.p (by rfl) (Yl.not (by rfl)) ?_
        refine WL.p (by rfl) (Yl.assign (by rfl)) ?_
        refine WL.next ?_
        refine WC.condS (by rfl) (fun h4 => ?_) (fun h4 => ?_)
        ·
          replace h4 := not_eq_true h4
          refine WC.seq ?_
          refine WL.p (by rfl) (Yl.assign (by rfl)) ?_
          refine WL.next ?_
          refine WC.ret ?_
          refine At.blockret ?_
          refine At.thenret ?_
          refine fin1' rfl (by rfl) ?_
          refine RetP.mk hs ?_
          have e9_ := checkReq_or p.lg r
          simp_all [checkResp]
        ·
          replace h4 := not_eq_false h4
          refine WC.seq ?_
          refine WL.p (by rfl) (Yl.fieldAddr fa66_2 (by rfl)) ?_
          refine WL.p (by rfl) (Yl.loadB sca9 (by rfl) hs (by repeat (first | exact List.mem_cons_self | apply List.mem_cons_of_mem)) (by rfl)) ?_
          refine WL.p (by rfl) (Yl.fieldAddr fa66_1 (by rfl)) ?_
          refine WL.p (by rfl) (Yl.fieldAddr fa45_0 (by rfl)) ?_
          refine WL.p (by rfl) (Yl.loadB sca9 (by rfl) hs (by repeat (first | exact List.mem_cons_self | apply List.mem_cons_of_mem)) (by rfl)) ?_
          refine WL.p (by rfl) (Yl.nes (by rfl) (by rfl)) ?_
          refine WL.p (by rfl) (Yl.move (by rfl)) ?_
          refine WL.split (d := 34) (by rfl) (fun h5 => ?_) (fun h5 => ?_)
          ·
            replace h5 := not_eq_true h5
            replace h5 := of_decide_eq_false h5
            refine WL.run (d := 34) (by rfl) (by rfl) ?_
            refine WL.p (by rfl) (Yl.fieldAddr fa41_4 (by rfl)) ?_
            refine WL.run (d := 34) (by rfl) (by rfl) ?_
            refine WL.p (by rfl) (Yl.loadB sca4 (by rfl) hs (by repeat (first | exact List.mem_cons_self | apply List.mem_cons_of_mem)) (by rfl)) ?_
            refine WL.run (d := 34) (by rfl) (by rfl) ?_
            refine WL.p (by rfl) (Yl.not (by rfl)) ?_
            refine WL.p (by rfl) (Yl.pickT (by rfl) (by rfl)) ?_
            refine WL.p (by rfl) (Yl.move (by rfl)) ?_
            refine WL.split (d := 39) (by rfl) (fun h6 => ?_) (fun h6 => ?_)
            ·
              replace h6 := not_eq_true h6
              refine WL.run (d := 39) (by rfl) (by rfl) ?_
              refine WL.p (by rfl) (Yl.fieldAddr fa66_0 (by rfl)) ?_
              refine WL.run (d := 39) (by rfl) (by rfl) ?_
              refine WL.p (by rfl) (Yl.loadB sca3 (by rfl) hs (by repeat (first | exact List.mem_cons_self | apply List.mem_cons_of_mem)) (by rfl)) ?_
              refine WL.run (d := 39) (by rfl) (by rfl) ?_
              refine WL.p (by rfl) (Yl.eqi (by rfl) (by rfl)) ?_
              refine WL.run (d := 39) (by rfl) (by rfl) ?_
              refine WL.p (by rfl) (Yl.move (by rfl)) ?_
              refine WL.split (d := 43) (by rfl) (fun h7 => ?_) (fun h7 => ?_)
              ·
                replace h7 := of_decide_eq_true h7
                refine WL.skip (d := 43) (by rfl) (by rfl) (by rfl) (by rfl) ?_
                refine WL.skip (d := 43) (by rfl) (by rfl) (by rfl) (by rfl) ?_
                refine WL.skip (d := 43) (by rfl) (by rfl) (by rfl) (by rfl) ?_
                refine WL.run (d := 39) (by rfl) (by rfl) ?_
                refine WL.p (by rfl) (Yl.pickT (by rfl) (by rfl)) ?_
                refine WL.p (by rfl) (Yl.pickT (by rfl) (by rfl)) ?_
                refine WL.p (by rfl) (Yl.assign (by rfl)) ?_
                refine WL.next ?_
                refine WC.condT (by rfl) ?_
                refine WC.seq ?_
                refine WL.p (by rfl) (Yl.assign (by rfl)) ?_
                refine WL.next ?_
                refine WC.ret ?_
                refine At.blockret ?_
                refine At.thenret ?_
                refine fin1' rfl (by rfl) ?_
                refine RetP.mk hs ?_
                have e9_ := checkReq_or p.lg r
                simp_all [checkResp]
              ·
                replace h7 := of_decide_eq_false h7
                refine WL.run (d := 43) (by rfl) (by rfl) ?_
                refine WL.p (by rfl) (Yl.fieldAddr fa66_3 (by rfl)) ?_
                refine WL.run (d := 43) (by rfl) (by rfl) ?_
                refine WL.p (by rfl) (Yl.loadB sca9 (by rfl) hs (by repeat (first | exact List.mem_cons_self | apply List.mem_cons_of_mem)) (by rfl)) ?_
                refine WL.run (d := 43) (by rfl) (by rfl) ?_
                refine WL.p (by rfl) (Yl.nes (by rfl) (by rfl)) ?_
                refine WL.run (d := 39) (by rfl) (by rfl) ?_
                refine WL.p (by rfl) (Yl.pickF (by rfl) (by rfl)) ?_
                refine WL.p (by rfl) (Yl.pickT (by rfl) (by rfl)) ?_
                refine WL.p (by rfl) (Yl.assign (by rfl)) ?_
                refine WL.next ?_
                refine WC.condS (by rfl) (fun h8 => ?_) (fun h8 => ?_)
                ·
                  replace h8 := not_eq_true h8
                  replace h8 := of_decide_eq_false h8
                  refine WC.seq ?_
                  refine WL.p (by rfl) (Yl.assign (by rfl)) ?_
                  refine WL.next ?_
                  refine WC.ret ?_
                  refine At.blockret ?_
                  refine At.thenret ?_
                  refine fin1' rfl (by rfl) ?_
                  refine RetP.mk hs ?_
                  have e9_ := checkReq_or p.lg r
                  simp_all [checkResp]
                ·
                  replace h8 := not_eq_false h8
                  replace h8 := of_decide_eq_true h8
                  refine WC.seq ?_
                  refine WL.p (by rfl) (Yl.fieldAddr fa41_2 (by rfl)) ?_
                  refine WL.p (by rfl) (Yl.loadB sca9 (by rfl) hs (by repeat (first | exact List.mem_cons_self | apply List.mem_cons_of_mem)) (by rfl)) ?_
                  refine WL.p (by rfl) (Yl.fieldAddr fa66_3 (by rfl)) ?_
                  refine WL.p (by rfl) (Yl.loadB sca9 (by rfl) hs (by repeat (first | exact List.mem_cons_self | apply List.mem_cons_of_mem)) (by rfl)) ?_
                  refine WL.callp hs (by rfl) (Yc.func (by rfl) fn95) (c_spec_CheckDigest _ _ _ (Ph.old h_x.body hs) (by exact hb2)) ?_
                  clear hs; intro w hs
                  refine WL.p (by rfl) (Yl.not (by rfl)) ?_
                  refine WL.p (by rfl) (Yl.assign (by rfl)) ?_
                  refine WL.next ?_
                  refine WC.condS (by rfl) (fun h9 => ?_) (fun h9 => ?_)
                  ·
                    replace h9 := not_eq_true h9
                    refine WC.seq ?_
                    refine WL.p (by rfl) (Yl.assign (by rfl)) ?_
                    refine WL.next ?_
                    refine WC.ret ?_
                    refine At.blockret ?_
                    refine At.thenret ?_
                    refine fin1' rfl (by rfl) ?_
                    refine RetP.mk hs ?_
                    have e9_ := checkReq_or p.lg r
                    simp_all [checkResp]
                  ·
                    replace h9 := not_eq_false h9
                    refine WC.skip ?_
                    refine At.blocknormal ?_
                    refine At.then_ ?_
                    refine WC.seq ?_
                    refine WL.p (by rfl) (Yl.assign (by rfl)) ?_
                    refine WL.next ?_
                    refine WC.ret ?_
                    refine fin1' rfl (by rfl) ?_
                    refine RetP.mk hs ?_
                    have e9_ := checkReq_or p.lg r
                    simp_all [checkResp]
            ·
              replace h6 := not_eq_false h6
              refine WL.skip (d := 39) (by rfl) (by rfl) (by rfl) (by rfl) ?_
              refine WL.skip (d := 39) (by rfl) (by rfl) (by rfl) (by rfl) ?_
              refine WL.skip (d := 39) (by rfl) (by rfl) (by rfl) (by rfl) ?_
              refine WL.skip (d := 39) (by rfl) (by rfl) (by rfl) (by rfl) ?_
              refine WL.skipU (d := 43) (by rfl) (by rfl) (by rfl) ?_
              refine WL.skipU (d := 43) (by rfl) (by rfl) (by rfl) ?_
              refine WL.skipU (d := 43) (by rfl) (by rfl) (by rfl) ?_
              refine WL.skip (d := 39) (by rfl) (by rfl) (by rfl) (by rfl) ?_
              refine WL.p (by rfl) (Yl.pickF (by rfl) (by rfl)) ?_
              refine WL.p (by rfl) (Yl.assign (by rfl)) ?_
              refine WL.next ?_
              refine WC.condF (by rfl) ?_
              refine WC.seq ?_
              refine WL.p (by rfl) (Yl.fieldAddr fa41_2 (by rfl)) ?_
              refine WL.p (by rfl) (Yl.loadB sca9 (by rfl) hs (by repeat (first | exact List.mem_cons_self | apply List.mem_cons_of_mem)) (by rfl)) ?_
              refine WL.p (by rfl) (Yl.fieldAddr fa66_3 (by rfl)) ?_
              refine WL.p (by rfl) (Yl.loadB sca9 (by rfl) hs (by repeat (first | exact List.mem_cons_self | apply List.mem_cons_of_mem)) (by rfl)) ?_
              refine WL.callp hs (by rfl) (Yc.func (by rfl) fn95) (c_spec_CheckDigest _ _ _ (Ph.old h_x.body hs) (by exact hb2)) ?_
              clear hs; intro w hs
              refine WL.p (by rfl) (Yl.not (by rfl)) ?_
              refine WL.p (by rfl) (Yl.assign (by rfl)) ?_
              refine WL.next ?_
              refine WC.condS (by rfl) (fun h7 => ?_) (fun h7 => ?_)
              ·
                replace h7 := not_eq_true h7
                refine WC.seq ?_
                refine WL.p (by rfl) (Yl.assign (by rfl)) ?_
                refine WL.next ?_
                refine WC.ret ?_
                refine At.blockret ?_
                refine At.thenret ?_
                refine fin1' rfl (by rfl) ?_
                refine RetP.mk hs ?_
                have e9_ := checkReq_or p.lg r
                simp_all [checkResp]
              ·
                replace h7 := not_eq_false h7
                refine WC.skip ?_
                refine At.blocknormal ?_
                refine At.then_ ?_
                refine WC.seq ?_
                refine WL.p (by rfl) (Yl.assign (by rfl)) ?_
                refine WL.next ?_
                refine WC.ret ?_
                refine fin1' rfl (by rfl) ?_
                refine RetP.mk hs ?_
                have e9_ := checkReq_or p.lg r
                simp_all [checkResp]
          ·
            replace h5 := not_eq_false h5
            replace h5 := of_decide_eq_true h5
            refine WL.skip (d := 34) (by rfl) (by rfl) (by rfl) (by rfl) ?_
            refine WL.skip (d := 34) (by rfl) (by rfl) (by rfl) (by rfl) ?_
            refine WL.skip (d := 34) (by rfl) (by rfl) (by rfl) (by rfl) ?_
            refine WL.p (by rfl) (Yl.pickF (by rfl) (by rfl)) ?_
            refine WL.p (by rfl) (Yl.move (by rfl)) ?_
            refine WL.skip (d := 39) (by rfl) (by rfl) (by rfl) (by rfl) ?_
            refine WL.skip (d := 39) (by rfl) (by rfl) (by rfl) (by rfl) ?_
            refine WL.skip (d := 39) (by rfl) (by rfl) (by rfl) (by rfl) ?_
            refine WL.skip (d := 39) (by rfl) (by rfl) (by rfl) (by rfl) ?_
            refine WL.skipU (d := 43) (by rfl) (by rfl) (by rfl) ?_
            refine WL.skipU (d := 43) (by rfl) (by rfl) (by rfl) ?_
            refine WL.skipU (d := 43) (by rfl) (by rfl) (by rfl) ?_
            refine WL.skip (d := 39) (by rfl) (by rfl) (by rfl) (by rfl) ?_
            refine WL.p (by rfl) (Yl.pickF (by rfl) (by rfl)) ?_
            refine WL.p (by rfl) (Yl.assign (by rfl)) ?_
            refine WL.next ?_
            refine WC.condF (by rfl) ?_
            refine WC.seq ?_
            refine WL.p (by rfl) (Yl.fieldAddr fa41_2 (by rfl)) ?_
            refine WL.p (by rfl) (Yl.loadB sca9 (by rfl) hs (by repeat (first | exact List.mem_cons_self | apply List.mem_cons_of_mem)) (by rfl)) ?_
            refine WL.p (by rfl) (Yl.fieldAddr fa66_3 (by rfl)) ?_
            refine WL.p (by rfl) (Yl.loadB sca9 (by rfl) hs (by repeat (first | exact List.mem_cons_self | apply List.mem_cons_of_mem)) (by rfl)) ?_
            refine WL.callp hs (by rfl) (Yc.func (by rfl) fn95) (c_spec_CheckDigest _ _ _ (Ph.old h_x.body hs) (by exact hb2)) ?_
            clear hs; intro w hs
            refine WL.p (by rfl) (Yl.not (by rfl)) ?_
            refine WL.p (by rfl) (Yl.assign (by rfl)) ?_
            refine WL.next ?_
            refine WC.condS (by rfl) (fun h6 => ?_) (fun h6 => ?_)
            ·
              replace h6 := not_eq_true h6
              refine WC.seq ?_
              refine WL.p (by rfl) (Yl.assign (by rfl)) ?_
              refine WL.next ?_
              refine WC.ret ?_
              refine At.blockret ?_
              refine At.thenret ?_
              refine fin1' rfl (by rfl) ?_
              refine RetP.mk hs ?_
              have e9_ := checkReq_or p.lg r
              simp_all [checkResp]
            ·
              replace h6 := not_eq_false h6
              refine WC.skip ?_
              refine At.blocknormal ?_
              refine At.then_ ?_
              refine WC.seq ?_
              refine WL.p (by rfl) (Yl.assign (by rfl)) ?_
              refine WL.next ?_
              refine WC.ret ?_
              refine fin1' rfl (by rfl) ?_
              refine RetP.mk hs ?_
              have e9_ := checkReq_or p.lg r
              simp_all [checkResp]

theorem c_laws_toStringS (a : (Sl Str)) (w : World) (h_a : Ph.ok w a) (hb : a.l.length ≤ 1048576) : Calls Tryz.prog 96 [Sl.v a].toArray w (Ret w (fun v w' => ∃ x : Sl Str, v = x.v ∧ x.l = a.l ∧ Fresh w x w')) := by
  have hw := h_a.lt
  refine enterN 22 Tryz.func96 rfl rfl rfl ?_
  have hs := Sat.start w
  refine WC.seq ?_
  refine WL.p (by rfl) (Yl.assign (by rfl)) ?_
  refine WL.next ?_
  refine WC.seq ?_
  refine WL.p (by rfl) (Yl.move (by rfl)) ?_
  refine WL.p (by rfl) (Yl.len_sl slu53 (by rfl)) ?_
  refine WL.r (by rfl) (Yr.makeSlice (z := ([] : Str)) (bytes := 16) hs elt53 (by rfl) (by rfl) (by omega) (by unfold maxLen; omega)) ?_
  clear hs; rintro _ w ⟨s1, F1, rfl, hl1, hb, hs⟩; clear hb
  refine WL.p (by rfl) (Yl.assign (by rfl)) ?_
  refine WL.next ?_
  refine WC.seq' ?_
  refine WC.seq ?_
  refine WL.p (by rfl) (Yl.assign (by rfl)) ?_
  refine WL.next ?_
  refine WC.block ?_
  refine WC.loopC (ι := Nat × Sl Str × List Nat) (fun ⟨k, s, F⟩ => a.l.length - k) (fun ⟨k, s, F⟩ => [(4, I (k : Int)), (3, s.v)]) (fun ⟨k, s, F⟩ => [ow s F]) (fun ⟨k, s, F⟩ => k ≤ a.l.length ∧ s.l = a.l.take k ++ List.replicate (a.l.length - k) ([] : Str)) [(0, _), (2, _), (5, _), (6, _), (7, _)] (0, s1, F1) (hs.sel (D := [ow s1 F1]) (by repeat (first | exact Sel.nil | (apply Sel.cons; (repeat (first | exact Ext.here | apply Ext.there)))))) ⟨by rfl, by rfl, by rfl, by rfl, by rfl, trivial⟩ ⟨by rfl, by rfl, trivial⟩ ?_ ?_
  ·
    exact ⟨Nat.zero_le _, by simp [hl1]⟩
  clear hs; rintro ⟨k, s, F⟩ w ⟨hJ1, hJ2⟩ hs
  simp only [List.cons_append, List.nil_append] at hs
  refine WC.seq' ?_
  refine WC.seq ?_
  refine WL.p (by rfl) (Yl.move (by rfl)) ?_
  refine WL.p (by rfl) (Yl.move (by rfl)) ?_
  refine WL.p (by rfl) (Yl.len_sl slu53 (by rfl)) ?_
  refine WL.p (by rfl) (Yl.lss (by rfl) (by rfl)) ?_
  refine WL.next ?_
  refine WC.condS (by rfl) (fun h1 => ?_) (fun h1 => ?_)
  ·
    replace h1 := of_decide_eq_true h1
    obtain ⟨d, hd⟩ := exists_get (l := a.l) (k := k) (by omega)
    have hkl : k < s.l.length := by rw [hJ2]; simp; omega
    refine WC.skipn ?_
    refine WC.seq' ?_
    refine WC.block ?_
    refine WC.region ?_
    refine WL.p (by rfl) (Yl.move (by rfl)) ?_
    refine WL.p (by rfl) (Yl.move (by rfl)) ?_
    refine WL.p (by rfl) (Yl.move (by rfl)) ?_
    refine WL.p (by rfl) (Yl.move (by rfl)) ?_
    refine WL.p (by rfl) (Yl.indexAddr slt53 (by rfl) (by rfl) (Ph.old h_a hs) (by rfl) (hd)) ?_
    refine WL.p (by rfl) (Yl.loadC0 sca9 (by rfl) (Sl.Ok.at_ (Ph.old h_a hs) (by assumption)).2 (by rfl)) ?_
    refine WL.p (by rfl) (Yl.indexAddr slt53 (by rfl) (by rfl) (hs.okow (x := s) (F := F) (by repeat (first | exact List.mem_cons_self | apply List.mem_cons_of_mem))) (by rfl) (List.getElem?_eq_getElem hkl)) ?_
    refine WL.s (Yr.storeE (k := k) (hs.flat (by first | assumption | (refine Ph.old ?_ hs; assumption) | (refine Ph.old (Sl.Ok.elem ?_ (by assumption)) hs; assumption))) (by repeat (first | exact Sel.nil | (apply Sel.cons; (repeat (first | exact Ext.here | apply Ext.there))))) (by rfl) (by rfl) (by rfl) (by exact hkl) ⟨_, by rfl, by rfl⟩ szf9) ?_
    clear hs; rintro _ w ⟨F2, hs⟩
    refine WL.nil ?_
    refine At.blocknormal ?_
    refine At.then_ ?_
    refine WC.region ?_
    refine WL.p (by rfl) (Yl.move (by rfl)) ?_
    refine WL.p (by rfl) (Yl.add (by rfl) (by rfl) (by omega)) ?_
    refine WL.p (by rfl) (Yl.assign (by rfl)) ?_
    refine WL.nil ?_
    refine At.roundC (k + 1, ⟨s.l.set k d, s.a, s.c⟩, _) (hs.only (by repeat (first | exact Sel.nil | (apply Sel.cons; (repeat (first | exact Ext.here | apply Ext.there)))))) ⟨by rfl, by rfl, by rfl, by rfl, by rfl, trivial⟩ ⟨by rfl, by rw [Sl.v_set]; rfl, trivial⟩ ?_ ?_
    ·
      show a.l.length - (k + 1) < a.l.length - k
      omega
    ·
      exact ⟨by omega, by simp only [hJ2]; exact fill_step hd⟩
  ·
    replace h1 := of_decide_eq_false h1
    refine WC.exit ?_
    refine At.thenexit ?_
    refine At.thenexit ?_
    refine At.blockexit ?_
    refine At.then_ ?_
    refine WC.seq ?_
    refine WL.p (by rfl) (Yl.move (by rfl)) ?_
    refine WL.p (by rfl) (Yl.assign (by rfl)) ?_
    refine WL.next ?_
    refine WC.ret ?_
    refine fin1' rfl (by rfl) ?_
    refine Ret.mk hs ?_
    exact ⟨s, rfl, by rw [hJ2, show k = a.l.length from by omega]; simp, hs.fresh (by repeat (first | exact List.mem_cons_self | apply List.mem_cons_of_mem))⟩

theorem c_laws_toPolicy (a : PPolicy) (w : World) (h_a : Ph.ok w a) (hb : a.lg.size ≤ 1048576) : Calls Tryz.prog 27 [.agg #[Bo a.set, Sl.v a.scripts, Sl.v a.styles, Sl.v a.images, S a.nonce]].toArray w (Ret w (fun v w' => ∃ x : PPolicy, v = .agg (Ph.enc x).toArray ∧ x.lg = a.lg ∧ Fresh w x w')) := by
  refine enterN 23 Tryz.func27 rfl rfl rfl ?_
  have hs := Sat.start w
  refine WC.seq ?_
  refine WL.r (by rfl) (Yr.box hs (by rfl) (by rfl)) ?_
  clear hs; rintro _ w ⟨b1, rfl, hb, hs⟩; clear hb
  refine WL.r (by rfl) (Yr.alloc hs zt63) ?_
  clear hs; rintro _ w ⟨b2, rfl, hb, hs⟩; clear hb
  refine WL.next ?_
  refine WC.seq ?_
  refine WL.r (by rfl) (Yr.alloc hs zt63) ?_
  clear hs; rintro _ w ⟨b3, rfl, hb, hs⟩; clear hb
  refine WL.next ?_
  refine WC.seq ?_
  refine WL.p (by rfl) (Yl.fieldAddr fa55_0 (by rfl)) ?_
  refine WL.p (by rfl) (Yl.loadB sca4 (by rfl) hs (by repeat (first | exact List.mem_cons_self | apply List.mem_cons_of_mem)) (by rfl)) ?_
  refine WL.p (by rfl) (Yl.fieldAddr fa63_0 (by rfl)) ?_
  refine WL.s (Yr.storeB hs (by rfl) (by rfl) (by rfl) (by repeat (first | exact Repl.here | apply Repl.there)) (by repeat (first | (apply SetAt.here; repeat (first | exact Over.nil | apply Over.cons)) | apply SetAt.there)) (by rfl) (by exact szf4)) ?_
  clear hs; rintro _ w hs
  refine WL.next ?_
  refine WC.seq ?_
  refine WL.p (by rfl) (Yl.fieldAddr fa55_1 (by rfl)) ?_
  refine WL.p (by rfl) (Yl.loadB sca53 (by rfl) hs (by repeat (first | exact List.mem_cons_self | apply List.mem_cons_of_mem)) (by rfl)) ?_
  refine WL.call hs (by rfl) (Yc.func (by rfl) fn96) (c_laws_toStringS _ _ (Ph.old h_a.scripts hs) (by first | assumption | omega | (simp only [lsz] at *; omega) | (simp only [lsz, strsz, TPolicy.size, TCache.size, TAddr.size, TRequest.size, TEntry.size, TResponse.size, TLine.size] at *; omega) | (simp only [lsz_map, TPage.size, TBuilder.size, TNode.size, TToken.size, TTokenizer.size, TServer.size, TFile.size, TNet.size, TCache.size, TSheet.size, strsz] at *; omega) | (simp only [lsz_map, TPage.size, TBuilder.size, TNode.size, TToken.size, TTokenizer.size, TServer.size, TFile.size, TNet.size, TCache.size, TSheet.size, strsz, lsz] at *; omega))) ?_
  have hs0 := hs; clear hs; intro v w hb hR hs; clear hs
  obtain ⟨x4, rfl, hx4, hf4⟩ := hR
  obtain ⟨F4, hs⟩ := hf4.sat hs0 hb; clear hs0 hf4
  have hle4 := Sl.Ok.le (hs.okow (x := x4) (F := F4) (by repeat (first | exact List.mem_cons_self | apply List.mem_cons_of_mem)))
  refine WL.p (by rfl) (Yl.fieldAddr fa63_1 (by rfl)) ?_
  refine WL.s (Yr.storeB hs (by rfl) (by rfl) (by rfl) (by repeat (first | exact Repl.here | apply Repl.there)) (by repeat (first | (apply SetAt.here; repeat (first | exact Over.nil | apply Over.cons)) | apply SetAt.there)) (by rfl) (by exact szf53)) ?_
  clear hs; rintro _ w hs
  refine WL.next ?_
  refine WC.seq ?_
  refine WL.p (by rfl) (Yl.fieldAddr fa55_2 (by rfl)) ?_
  refine WL.p (by rfl) (Yl.loadB sca53 (by rfl) hs (by repeat (first | exact List.mem_cons_self | apply List.mem_cons_of_mem)) (by rfl)) ?_
  refine WL.call hs (by rfl) (Yc.func (by rfl) fn96) (c_laws_toStringS _ _ (Ph.old h_a.styles hs) (by first | assumption | omega | (simp only [lsz] at *; omega) | (simp only [lsz, strsz, TPolicy.size, TCache.size, TAddr.size, TRequest.size, TEntry.size, TResponse.size, TLine.size] at *; omega) | (simp only [lsz_map, TPage.size, TBuilder.size, TNode.size, TToken.size, TTokenizer.size, TServer.size, TFile.size, TNet.size, TCache.size, TSheet.size, strsz] at *; omega) | (simp only [lsz_map, TPage.size, TBuilder.size, TNode.size, TToken.size, TTokenizer.size, TServer.size, TFile.size, TNet.size, TCache.size, TSheet.size, strsz, lsz] at *; omega))) ?_
  have hs0 := hs; clear hs; intro v w hb hR hs; clear hs
  obtain ⟨x5, rfl, hx5, hf5⟩ := hR
  obtain ⟨F5, hs⟩ := hf5.sat hs0 hb; clear hs0 hf5
  have hle5 := Sl.Ok.le (hs.okow (x := x5) (F := F5) (by repeat (first | exact List.mem_cons_self | apply List.mem_cons_of_mem)))
  refine WL.p (by rfl) (Yl.fieldAddr fa63_2 (by rfl)) ?_
  refine WL.s (Yr.storeB hs (by rfl) (by rfl) (by rfl) (by repeat (first | exact Repl.here | apply Repl.there)) (by repeat (first | (apply SetAt.here; repeat (first | exact Over.nil | apply Over.cons)) | apply SetAt.there)) (by rfl) (by exact szf53)) ?_
  clear hs; rintro _ w hs
  refine WL.next ?_
  refine WC.seq ?_
  refine WL.p (by rfl) (Yl.fieldAddr fa55_3 (by rfl)) ?_
  refine WL.p (by rfl) (Yl.loadB sca53 (by rfl) hs (by repeat (first | exact List.mem_cons_self | apply List.mem_cons_of_mem)) (by rfl)) ?_
  refine WL.call hs (by rfl) (Yc.func (by rfl) fn96) (c_laws_toStringS _ _ (Ph.old h_a.images hs) (by first | assumption | omega | (simp only [lsz] at *; omega) | (simp only [lsz, strsz, TPolicy.size, TCache.size, TAddr.size, TRequest.size, TEntry.size, TResponse.size, TLine.size] at *; omega) | (simp only [lsz_map, TPage.size, TBuilder.size, TNode.size, TToken.size, TTokenizer.size, TServer.size, TFile.size, TNet.size, TCache.size, TSheet.size, strsz] at *; omega) | (simp only [lsz_map, TPage.size, TBuilder.size, TNode.size, TToken.size, TTokenizer.size, TServer.size, TFile.size, TNet.size, TCache.size, TSheet.size, strsz, lsz] at *; omega))) ?_
  have hs0 := hs; clear hs; intro v w hb hR hs; clear hs
  obtain ⟨x6, rfl, hx6, hf6⟩ := hR
  obtain ⟨F6, hs⟩ := hf6.sat hs0 hb; clear hs0 hf6
  have hle6 := Sl.Ok.le (hs.okow (x := x6) (F := F6) (by repeat (first | exact List.mem_cons_self | apply List.mem_cons_of_mem)))
  refine WL.p (by rfl) (Yl.fieldAddr fa63_3 (by rfl)) ?_
  refine WL.s (Yr.storeB hs (by rfl) (by rfl) (by rfl) (by repeat (first | exact Repl.here | apply Repl.there)) (by repeat (first | (apply SetAt.here; repeat (first | exact Over.nil | apply Over.cons)) | apply SetAt.there)) (by rfl) (by exact szf53)) ?_
  clear hs; rintro _ w hs
  refine WL.next ?_
  refine WC.seq ?_
  refine WL.p (by rfl) (Yl.fieldAddr fa55_4 (by rfl)) ?_
  refine WL.p (by rfl) (Yl.loadB sca9 (by rfl) hs (by repeat (first | exact List.mem_cons_self | apply List.mem_cons_of_mem)) (by rfl)) ?_
  refine WL.p (by rfl) (Yl.fieldAddr fa63_4 (by rfl)) ?_
  refine WL.s (Yr.storeB hs (by rfl) (by rfl) (by rfl) (by repeat (first | exact Repl.here | apply Repl.there)) (by repeat (first | (apply SetAt.here; repeat (first | exact Over.nil | apply Over.cons)) | apply SetAt.there)) (by rfl) (by exact szf9)) ?_
  clear hs; rintro _ w hs
  refine WL.next ?_
  refine WC.seq ?_
  refine WL.p (by rfl) (Yl.loadAB agg63 (by rfl) hs (by repeat (first | exact List.mem_cons_self | apply List.mem_cons_of_mem)) (by rfl) (by rfl)) ?_
  refine WL.s (Yr.storeB hs (by rfl) (by rfl) (by rfl) (by repeat (first | exact Repl.here | apply Repl.there)) (by repeat (first | (apply SetAt.here; repeat (first | exact Over.nil | apply Over.cons)) | apply SetAt.there)) (by rfl) (by exact szf63)) ?_
  clear hs; rintro _ w hs
  refine WL.next ?_
  refine WC.ret ?_
  refine fin1c rfl agg63 (by rfl) hs (by repeat (first | exact List.mem_cons_self | apply List.mem_cons_of_mem)) (by rfl) ?_
  refine Ret.mk hs ?_
  refine ⟨⟨_, x4, x5, x6, _⟩, rfl, ?_, ?_⟩
  · simp_all
  · exact (PPolicy.join _ (hs.only (D := [ow x4 F4, ow x5 F5, ow x6 F6]) (by repeat (first | exact Sel.nil | (apply Sel.cons; (repeat (first | exact Ext.here | apply Ext.there)))))) (by first | exact Ph.old h_a.set hs | trivial | assumption | exact Nat.zero_le _) (by first | exact Ph.old h_a.nonce hs | trivial | assumption | exact Nat.zero_le _)).fresh List.mem_cons_self

theorem c_laws_toAddr (a : TAddr) (w : World)   : Calls Tryz.prog 15 [.agg #[S a.host, S a.path]].toArray w (RetP w (.agg (Ph.enc a).toArray)) := by
  refine enterN 11 Tryz.func15 rfl rfl rfl ?_
  have hs := Sat.start w
  refine WC.seq ?_
  refine WL.r (by rfl) (Yr.box hs (by rfl) (by rfl)) ?_
  clear hs; rintro _ w ⟨b1, rfl, hb, hs⟩; clear hb
  refine WL.r (by rfl) (Yr.alloc hs zt45) ?_
  clear hs; rintro _ w ⟨b2, rfl, hb, hs⟩; clear hb
  refine WL.next ?_
  refine WC.seq ?_
  refine WL.r (by rfl) (Yr.alloc hs zt45) ?_
  clear hs; rintro _ w ⟨b3, rfl, hb, hs⟩; clear hb
  refine WL.next ?_
  refine WC.seq ?_
  refine WL.p (by rfl) (Yl.fieldAddr fa30_0 (by rfl)) ?_
  refine WL.p (by rfl) (Yl.loadB sca9 (by rfl) hs (by repeat (first | exact List.mem_cons_self | apply List.mem_cons_of_mem)) (by rfl)) ?_
  refine WL.p (by rfl) (Yl.fieldAddr fa45_0 (by rfl)) ?_
  refine WL.s (Yr.storeB hs (by rfl) (by rfl) (by rfl) (by repeat (first | exact Repl.here | apply Repl.there)) (by repeat (first | (apply SetAt.here; repeat (first | exact Over.nil | apply Over.cons)) | apply SetAt.there)) (by rfl) (by exact szf9)) ?_
  clear hs; rintro _ w hs
  refine WL.next ?_
  refine WC.seq ?_
  refine WL.p (by rfl) (Yl.fieldAddr fa30_1 (by rfl)) ?_
  refine WL.p (by rfl) (Yl.loadB sca9 (by rfl) hs (by repeat (first | exact List.mem_cons_self | apply List.mem_cons_of_mem)) (by rfl)) ?_
  refine WL.p (by rfl) (Yl.fieldAddr fa45_1 (by rfl)) ?_
  refine WL.s (Yr.storeB hs (by rfl) (by rfl) (by rfl) (by repeat (first | exact Repl.here | apply Repl.there)) (by repeat (first | (apply SetAt.here; repeat (first | exact Over.nil | apply Over.cons)) | apply SetAt.there)) (by rfl) (by exact szf9)) ?_
  clear hs; rintro _ w hs
  refine WL.next ?_
  refine WC.seq ?_
  refine WL.p (by rfl) (Yl.loadAB agg45 (by rfl) hs (by repeat (first | exact List.mem_cons_self | apply List.mem_cons_of_mem)) (by rfl) (by rfl)) ?_
  refine WL.s (Yr.storeB hs (by rfl) (by rfl) (by rfl) (by repeat (first | exact Repl.here | apply Repl.there)) (by repeat (first | (apply SetAt.here; repeat (first | exact Over.nil | apply Over.cons)) | apply SetAt.there)) (by rfl) (by exact szf45)) ?_
  clear hs; rintro _ w hs
  refine WL.next ?_
  refine WC.ret ?_
  refine fin1c rfl agg45 (by rfl) hs (by repeat (first | exact List.mem_cons_self | apply List.mem_cons_of_mem)) (by rfl) ?_
  refine RetP.mk hs ?_
  rfl

theorem c_laws_toRequest (a : TRequest) (w : World)   : Calls Tryz.prog 28 [.agg #[I a.kind, S a.to.host, S a.to.path, S a.frm, S a.digest]].toArray w (RetP w (.agg (Ph.enc a).toArray)) := by
  refine enterN 18 Tryz.func28 rfl rfl rfl ?_
  have hs := Sat.start w
  refine WC.seq ?_
  refine WL.r (by rfl) (Yr.box hs (by rfl) (by rfl)) ?_
  clear hs; rintro _ w ⟨b1, rfl, hb, hs⟩; clear hb
  refine WL.r (by rfl) (Yr.alloc hs zt66) ?_
  clear hs; rintro _ w ⟨b2, rfl, hb, hs⟩; clear hb
  refine WL.next ?_
  refine WC.seq ?_
  refine WL.r (by rfl) (Yr.alloc hs zt66) ?_
  clear hs; rintro _ w ⟨b3, rfl, hb, hs⟩; clear hb
  refine WL.next ?_
  refine WC.seq ?_
  refine WL.p (by rfl) (Yl.fieldAddr fa57_0 (by rfl)) ?_
  refine WL.p (by rfl) (Yl.loadB sca3 (by rfl) hs (by repeat (first | exact List.mem_cons_self | apply List.mem_cons_of_mem)) (by rfl)) ?_
  refine WL.p (by rfl) (Yl.fieldAddr fa66_0 (by rfl)) ?_
  refine WL.s (Yr.storeB hs (by rfl) (by rfl) (by rfl) (by repeat (first | exact Repl.here | apply Repl.there)) (by repeat (first | (apply SetAt.here; repeat (first | exact Over.nil | apply Over.cons)) | apply SetAt.there)) (by rfl) (by exact szf3)) ?_
  clear hs; rintro _ w hs
  refine WL.next ?_
  refine WC.seq ?_
  refine WL.p (by rfl) (Yl.fieldAddr fa57_1 (by rfl)) ?_
  refine WL.p (by rfl) (Yl.loadAB agg30 (by rfl) hs (by repeat (first | exact List.mem_cons_self | apply List.mem_cons_of_mem)) (by rfl) (by rfl)) ?_
  refine WL.callp hs (by rfl) (Yc.func (by rfl) fn15) (c_laws_toAddr _ _) ?_
  clear hs; intro w hs
  refine WL.p (by rfl) (Yl.fieldAddr fa66_1 (by rfl)) ?_
  refine WL.s (Yr.storeB hs (by rfl) (by rfl) (by rfl) (by repeat (first | exact Repl.here | apply Repl.there)) (by repeat (first | (apply SetAt.here; repeat (first | exact Over.nil | apply Over.cons)) | apply SetAt.there)) (by rfl) (by exact szf45)) ?_
  clear hs; rintro _ w hs
  refine WL.next ?_
  refine WC.seq ?_
  refine WL.p (by rfl) (Yl.fieldAddr fa57_2 (by rfl)) ?_
  refine WL.p (by rfl) (Yl.loadB sca9 (by rfl) hs (by repeat (first | exact List.mem_cons_self | apply List.mem_cons_of_mem)) (by rfl)) ?_
  refine WL.p (by rfl) (Yl.fieldAddr fa66_2 (by rfl)) ?_
  refine WL.s (Yr.storeB hs (by rfl) (by rfl) (by rfl) (by repeat (first | exact Repl.here | apply Repl.there)) (by repeat (first | (apply SetAt.here; repeat (first | exact Over.nil | apply Over.cons)) | apply SetAt.there)) (by rfl) (by exact szf9)) ?_
  clear hs; rintro _ w hs
  refine WL.next ?_
  refine WC.seq ?_
  refine WL.p (by rfl) (Yl.fieldAddr fa57_3 (by rfl)) ?_
  refine WL.p (by rfl) (Yl.loadB sca9 (by rfl) hs (by repeat (first | exact List.mem_cons_self | apply List.mem_cons_of_mem)) (by rfl)) ?_
  refine WL.p (by rfl) (Yl.fieldAddr fa66_3 (by rfl)) ?_
  refine WL.s (Yr.storeB hs (by rfl) (by rfl) (by rfl) (by repeat (first | exact Repl.here | apply Repl.there)) (by repeat (first | (apply SetAt.here; repeat (first | exact Over.nil | apply Over.cons)) | apply SetAt.there)) (by rfl) (by exact szf9)) ?_
  clear hs; rintro _ w hs
  refine WL.next ?_
  refine WC.seq ?_
  refine WL.p (by rfl) (Yl.loadAB agg66 (by rfl) hs (by repeat (first | exact List.mem_cons_self | apply List.mem_cons_of_mem)) (by rfl) (by rfl)) ?_
  refine WL.s (Yr.storeB hs (by rfl) (by rfl) (by rfl) (by repeat (first | exact Repl.here | apply Repl.there)) (by repeat (first | (apply SetAt.here; repeat (first | exact Over.nil | apply Over.cons)) | apply SetAt.there)) (by rfl) (by exact szf66)) ?_
  clear hs; rintro _ w hs
  refine WL.next ?_
  refine WC.ret ?_
  refine fin1c rfl agg66 (by rfl) hs (by repeat (first | exact List.mem_cons_self | apply List.mem_cons_of_mem)) (by rfl) ?_
  refine RetP.mk hs ?_
  rfl

theorem c_laws_toResponse (a : TResponse) (w : World)   : Calls Tryz.prog 29 [.agg #[I a.status, I a.kind, S a.body, I a.age, Bo a.shares, S a.policy]].toArray w (RetP w (.agg (Ph.enc a).toArray)) := by
  refine enterN 23 Tryz.func29 rfl rfl rfl ?_
  have hs := Sat.start w
  refine WC.seq ?_
  refine WL.r (by rfl) (Yr.box hs (by rfl) (by rfl)) ?_
  clear hs; rintro _ w ⟨b1, rfl, hb, hs⟩; clear hb
  refine WL.r (by rfl) (Yr.alloc hs zt41) ?_
  clear hs; rintro _ w ⟨b2, rfl, hb, hs⟩; clear hb
  refine WL.next ?_
  refine WC.seq ?_
  refine WL.r (by rfl) (Yr.alloc hs zt41) ?_
  clear hs; rintro _ w ⟨b3, rfl, hb, hs⟩; clear hb
  refine WL.next ?_
  refine WC.seq ?_
  refine WL.p (by rfl) (Yl.fieldAddr fa58_0 (by rfl)) ?_
  refine WL.p (by rfl) (Yl.loadB sca3 (by rfl) hs (by repeat (first | exact List.mem_cons_self | apply List.mem_cons_of_mem)) (by rfl)) ?_
  refine WL.p (by rfl) (Yl.fieldAddr fa41_0 (by rfl)) ?_
  refine WL.s (Yr.storeB hs (by rfl) (by rfl) (by rfl) (by repeat (first | exact Repl.here | apply Repl.there)) (by repeat (first | (apply SetAt.here; repeat (first | exact Over.nil | apply Over.cons)) | apply SetAt.there)) (by rfl) (by exact szf3)) ?_
  clear hs; rintro _ w hs
  refine WL.next ?_
  refine WC.seq ?_
  refine WL.p (by rfl) (Yl.fieldAddr fa58_1 (by rfl)) ?_
  refine WL.p (by rfl) (Yl.loadB sca3 (by rfl) hs (by repeat (first | exact List.mem_cons_self | apply List.mem_cons_of_mem)) (by rfl)) ?_
  refine WL.p (by rfl) (Yl.fieldAddr fa41_1 (by rfl)) ?_
  refine WL.s (Yr.storeB hs (by rfl) (by rfl) (by rfl) (by repeat (first | exact Repl.here | apply Repl.there)) (by repeat (first | (apply SetAt.here; repeat (first | exact Over.nil | apply Over.cons)) | apply SetAt.there)) (by rfl) (by exact szf3)) ?_
  clear hs; rintro _ w hs
  refine WL.next ?_
  refine WC.seq ?_
  refine WL.p (by rfl) (Yl.fieldAddr fa58_2 (by rfl)) ?_
  refine WL.p (by rfl) (Yl.loadB sca9 (by rfl) hs (by repeat (first | exact List.mem_cons_self | apply List.mem_cons_of_mem)) (by rfl)) ?_
  refine WL.p (by rfl) (Yl.fieldAddr fa41_2 (by rfl)) ?_
  refine WL.s (Yr.storeB hs (by rfl) (by rfl) (by rfl) (by repeat (first | exact Repl.here | apply Repl.there)) (by repeat (first | (apply SetAt.here; repeat (first | exact Over.nil | apply Over.cons)) | apply SetAt.there)) (by rfl) (by exact szf9)) ?_
  clear hs; rintro _ w hs
  refine WL.next ?_
  refine WC.seq ?_
  refine WL.p (by rfl) (Yl.fieldAddr fa58_3 (by rfl)) ?_
  refine WL.p (by rfl) (Yl.loadB sca3 (by rfl) hs (by repeat (first | exact List.mem_cons_self | apply List.mem_cons_of_mem)) (by rfl)) ?_
  refine WL.p (by rfl) (Yl.fieldAddr fa41_3 (by rfl)) ?_
  refine WL.s (Yr.storeB hs (by rfl) (by rfl) (by rfl) (by repeat (first | exact Repl.here | apply Repl.there)) (by repeat (first | (apply SetAt.here; repeat (first | exact Over.nil | apply Over.cons)) | apply SetAt.there)) (by rfl) (by exact szf3)) ?_
  clear hs; rintro _ w hs
  refine WL.next ?_
  refine WC.seq ?_
  refine WL.p (by rfl) (Yl.fieldAddr fa58_4 (by rfl)) ?_
  refine WL.p (by rfl) (Yl.loadB sca4 (by rfl) hs (by repeat (first | exact List.mem_cons_self | apply List.mem_cons_of_mem)) (by rfl)) ?_
  refine WL.p (by rfl) (Yl.fieldAddr fa41_4 (by rfl)) ?_
  refine WL.s (Yr.storeB hs (by rfl) (by rfl) (by rfl) (by repeat (first | exact Repl.here | apply Repl.there)) (by repeat (first | (apply SetAt.here; repeat (first | exact Over.nil | apply Over.cons)) | apply SetAt.there)) (by rfl) (by exact szf4)) ?_
  clear hs; rintro _ w hs
  refine WL.next ?_
  refine WC.seq ?_
  refine WL.p (by rfl) (Yl.fieldAddr fa58_5 (by rfl)) ?_
  refine WL.p (by rfl) (Yl.loadB sca9 (by rfl) hs (by repeat (first | exact List.mem_cons_self | apply List.mem_cons_of_mem)) (by rfl)) ?_
  refine WL.p (by rfl) (Yl.fieldAddr fa41_5 (by rfl)) ?_
  refine WL.s (Yr.storeB hs (by rfl) (by rfl) (by rfl) (by repeat (first | exact Repl.here | apply Repl.there)) (by repeat (first | (apply SetAt.here; repeat (first | exact Over.nil | apply Over.cons)) | apply SetAt.there)) (by rfl) (by exact szf9)) ?_
  clear hs; rintro _ w hs
  refine WL.next ?_
  refine WC.seq ?_
  refine WL.p (by rfl) (Yl.loadAB agg41 (by rfl) hs (by repeat (first | exact List.mem_cons_self | apply List.mem_cons_of_mem)) (by rfl) (by rfl)) ?_
  refine WL.s (Yr.storeB hs (by rfl) (by rfl) (by rfl) (by repeat (first | exact Repl.here | apply Repl.there)) (by repeat (first | (apply SetAt.here; repeat (first | exact Over.nil | apply Over.cons)) | apply SetAt.there)) (by rfl) (by exact szf41)) ?_
  clear hs; rintro _ w hs
  refine WL.next ?_
  refine WC.ret ?_
  refine fin1c rfl agg41 (by rfl) hs (by repeat (first | exact List.mem_cons_self | apply List.mem_cons_of_mem)) (by rfl) ?_
  refine RetP.mk hs ?_
  rfl

theorem c_impl_InRange (n : Int) (low : Int) (high : Int) (w : World)   : Calls Tryz.prog 90 [I n, I low, I high].toArray w (RetP w (Bo (inR n low high))) := by
  refine enterN 15 Tryz.func90 rfl rfl rfl ?_
  have hs := Sat.start w
  refine WC.seq ?_
  refine WL.p (by rfl) (Yl.assign (by rfl)) ?_
  refine WL.next ?_
  refine WC.seq ?_
  refine WL.p (by rfl) (Yl.move (by rfl)) ?_
  refine WL.p (by rfl) (Yl.move (by rfl)) ?_
  refine WL.p (by rfl) (Yl.leq (by rfl) (by rfl)) ?_
  refine WL.p (by rfl) (Yl.move (by rfl)) ?_
  refine WL.split (d := 10) (by rfl) (fun h1 => ?_) (fun h1 => ?_)
  ·
    replace h1 := of_decide_eq_true h1
    refine WL.run (d := 10) (by rfl) (by rfl) ?_
    refine WL.p (by rfl) (Yl.move (by rfl)) ?_
    refine WL.run (d := 10) (by rfl) (by rfl) ?_
    refine WL.p (by rfl) (Yl.move (by rfl)) ?_
    refine WL.run (d := 10) (by rfl) (by rfl) ?_
    refine WL.p (by rfl) (Yl.leq (by rfl) (by rfl)) ?_
    refine WL.p (by rfl) (Yl.pickT (by rfl) (by rfl)) ?_
    refine WL.p (by rfl) (Yl.assign (by rfl)) ?_
    refine WL.next ?_
    refine WC.ret ?_
    refine fin1' rfl (by rfl) ?_
    refine RetP.mk hs ?_
    simp [inR, h1]
  ·
    replace h1 := of_decide_eq_false h1
    refine WL.skip (d := 10) (by rfl) (by rfl) (by rfl) (by rfl) ?_
    refine WL.skip (d := 10) (by rfl) (by rfl) (by rfl) (by rfl) ?_
    refine WL.skip (d := 10) (by rfl) (by rfl) (by rfl) (by rfl) ?_
    refine WL.p (by rfl) (Yl.pickF (by rfl) (by rfl)) ?_
    refine WL.p (by rfl) (Yl.assign (by rfl)) ?_
    refine WL.next ?_
    refine WC.ret ?_
    refine fin1' rfl (by rfl) ?_
    refine RetP.mk hs ?_
    rw [inR_false.2 (by omega)]

theorem c_impl_IsName (s : Str) (w : World) (h_s : Ph.ok w s)  : Calls Tryz.prog 115 [S s].toArray w (RetP w (Bo (isName s))) := by
  have hw : s.length ≤ 9223372036854775807 := h_s
  refine enterN 23 Tryz.func115 rfl rfl rfl ?_
  have hs := Sat.start w
  refine WC.seq ?_
  refine WL.p (by rfl) (Yl.assign (by rfl)) ?_
  refine WL.next ?_
  refine WC.seq' ?_
  refine WC.seq ?_
  refine WL.p (by rfl) (Yl.assign (by rfl)) ?_
  refine WL.next ?_
  refine WC.block ?_
  refine WC.loopC (ι := Nat) (fun k => s.length - k) (fun k => [(3, I (k : Int))]) (fun _ => []) (fun k => s.all lower = (s.drop k).all lower) [(0, _)] 0 (hs) ⟨by rfl, trivial⟩ ⟨by rfl, trivial⟩ ?_ ?_
  ·
    simp
  clear hs; rintro k w hJ hs
  simp only [List.nil_append] at hs
  refine WC.seq' ?_
  refine WC.seq ?_
  refine WL.p (by rfl) (Yl.move (by rfl)) ?_
  refine WL.p (by rfl) (Yl.move (by rfl)) ?_
  refine WL.p (by rfl) (Yl.len_str str9 (by rfl)) ?_
  refine WL.p (by rfl) (Yl.lss (by rfl) (by rfl)) ?_
  refine WL.next ?_
  refine WC.condS (by rfl) (fun h1 => ?_) (fun h1 => ?_)
  ·
    replace h1 := of_decide_eq_true h1
    obtain ⟨d, hd⟩ := exists_get (l := s) (k := k) (by omega)
    rw [drop_cons hd] at hJ
    refine WC.skipn ?_
    refine WC.seq' ?_
    refine WC.block ?_
    refine WC.seq ?_
    refine WL.p (by rfl) (Yl.move (by rfl)) ?_
    refine WL.p (by rfl) (Yl.move (by rfl)) ?_
    refine WL.p (by rfl) (Yl.index str9 (by rfl) (by rfl) (by rfl) (by first | assumption | exact List.getElem?_eq_getElem (by omega))) ?_
    refine WL.p (by rfl) (Yl.lss (by rfl) (by rfl)) ?_
    refine WL.p (by rfl) (Yl.move (by rfl)) ?_
    refine WL.split (d := 14) (by rfl) (fun h2 => ?_) (fun h2 => ?_)
    ·
      replace h2 := of_decide_eq_true h2
      refine WL.skip (d := 14) (by rfl) (by rfl) (by rfl) (by rfl) ?_
      refine WL.skip (d := 14) (by rfl) (by rfl) (by rfl) (by rfl) ?_
      refine WL.skip (d := 14) (by rfl) (by rfl) (by rfl) (by rfl) ?_
      refine WL.skip (d := 14) (by rfl) (by rfl) (by rfl) (by rfl) ?_
      refine WL.p (by rfl) (Yl.pickT (by rfl) (by rfl)) ?_
      refine WL.next ?_
      refine WC.condT (by rfl) ?_
      refine WC.seq ?_
      refine WL.p (by rfl) (Yl.assign (by rfl)) ?_
      refine WL.next ?_
      refine WC.ret ?_
      refine At.blockret ?_
      refine At.thenret ?_
      refine At.thenret ?_
      refine At.blockret ?_
      refine At.thenret ?_
      refine fin1' rfl (by rfl) ?_
      refine RetP.mk hs ?_
      first
        | (simp [isName, hJ, lower]; done)
        | (simp [isName, hJ, lower]; omega)
        | simp_all [isName, hJ, lower]
    ·
      replace h2 := of_decide_eq_false h2
      refine WL.run (d := 14) (by rfl) (by rfl) ?_
      refine WL.p (by rfl) (Yl.move (by rfl)) ?_
      refine WL.run (d := 14) (by rfl) (by rfl) ?_
      refine WL.p (by rfl) (Yl.move (by rfl)) ?_
      refine WL.run (d := 14) (by rfl) (by rfl) ?_
      refine WL.p (by rfl) (Yl.index str9 (by rfl) (by rfl) (by rfl) (by first | assumption | exact List.getElem?_eq_getElem (by omega))) ?_
      refine WL.run (d := 14) (by rfl) (by rfl) ?_
      refine WL.p (by rfl) (Yl.gtr (by rfl) (by rfl)) ?_
      refine WL.p (by rfl) (Yl.pickF (by rfl) (by rfl)) ?_
      refine WL.next ?_
      refine WC.condS (by rfl) (fun h3 => ?_) (fun h3 => ?_)
      ·
        replace h3 := of_decide_eq_true h3
        refine WC.seq ?_
        refine WL.p (by rfl) (Yl.assign (by rfl)) ?_
        refine WL.next ?_
        refine WC.ret ?_
        refine At.blockret ?_
        refine At.thenret ?_
        refine At.thenret ?_
        refine At.blockret ?_
        refine At.thenret ?_
        refine fin1' rfl (by rfl) ?_
        refine RetP.mk hs ?_
        first
          | (simp [isName, hJ, lower]; done)
          | (simp [isName, hJ, lower]; omega)
          | simp_all [isName, hJ, lower]
      ·
        replace h3 := of_decide_eq_false h3
        refine WC.skip ?_
        refine At.blocknormal ?_
        refine At.then_ ?_
        refine WC.region ?_
        refine WL.p (by rfl) (Yl.move (by rfl)) ?_
        refine WL.p (by rfl) (Yl.add (by rfl) (by rfl) (by omega)) ?_
        refine WL.p (by rfl) (Yl.assign (by rfl)) ?_
        refine WL.nil ?_
        refine At.roundC (k + 1) (hs.only (by repeat (first | exact Sel.nil | (apply Sel.cons; (repeat (first | exact Ext.here | apply Ext.there)))))) ⟨by rfl, trivial⟩ ⟨by rfl, trivial⟩ ?_ ?_
        ·
          omega
        ·
          rw [hJ]; simp [lower]; omega
  ·
    replace h1 := of_decide_eq_false h1
    rw [drop_out (l := s) (by omega)] at hJ
    refine WC.exit ?_
    refine At.thenexit ?_
    refine At.thenexit ?_
    refine At.blockexit ?_
    refine At.then_ ?_
    refine WC.seq ?_
    refine WL.p (by rfl) (Yl.move (by rfl)) ?_
    refine WL.p (by rfl) (Yl.len_str str9 (by rfl)) ?_
    refine WL.callp hs (by rfl) (Yc.func (by rfl) fn90) (c_impl_InRange _ _ _ _) ?_
    clear hs; intro w hs
    refine WL.p (by rfl) (Yl.assign (by rfl)) ?_
    refine WL.next ?_
    refine WC.ret ?_
    refine fin1' rfl (by rfl) ?_
    refine RetP.mk hs ?_
    first
      | (simp [isName, hJ, lower]; done)
      | (simp [isName, hJ, lower]; omega)
      | simp_all [isName, hJ, lower]

theorem c_impl_IsAddr (a : TAddr) (w : World) (h_a : Ph.ok w a)  : Calls Tryz.prog 72 [.agg #[S a.host, S a.path]].toArray w (RetP w (Bo (a.is))) := by
  refine enterN 11 Tryz.func72 rfl rfl rfl ?_
  have hs := Sat.start w
  refine WC.seq ?_
  refine WL.r (by rfl) (Yr.box hs (by rfl) (by rfl)) ?_
  clear hs; rintro _ w ⟨b1, rfl, hb, hs⟩; clear hb
  refine WL.p (by rfl) (Yl.assign (by rfl)) ?_
  refine WL.next ?_
  refine WC.seq ?_
  refine WL.p (by rfl) (Yl.fieldAddr fa45_0 (by rfl)) ?_
  refine WL.p (by rfl) (Yl.loadB sca9 (by rfl) hs (by repeat (first | exact List.mem_cons_self | apply List.mem_cons_of_mem)) (by rfl)) ?_
  refine WL.callp hs (by rfl) (Yc.func (by rfl) fn115) (c_impl_IsName _ _ (Ph.old h_a.host hs)) ?_
  clear hs; intro w hs
  refine WL.p (by rfl) (Yl.move (by rfl)) ?_
  refine WL.split (d := 6) (by rfl) (fun h1 => ?_) (fun h1 => ?_)
  ·
    refine WL.run (d := 6) (by rfl) (by rfl) ?_
    refine WL.p (by rfl) (Yl.fieldAddr fa45_1 (by rfl)) ?_
    refine WL.run (d := 6) (by rfl) (by rfl) ?_
    refine WL.p (by rfl) (Yl.loadB sca9 (by rfl) hs (by repeat (first | exact List.mem_cons_self | apply List.mem_cons_of_mem)) (by rfl)) ?_
    refine WL.run (d := 6) (by rfl) (by rfl) ?_
    refine WL.callp hs (by rfl) (Yc.func (by rfl) fn115) (c_impl_IsName _ _ (Ph.old h_a.path hs)) ?_
    clear hs; intro w hs
    refine WL.p (by rfl) (Yl.pickT (by rfl) (by rfl)) ?_
    refine WL.p (by rfl) (Yl.assign (by rfl)) ?_
    refine WL.next ?_
    refine WC.ret ?_
    refine fin1' rfl (by rfl) ?_
    refine RetP.mk hs ?_
    simp_all [TAddr.is]
  ·
    refine WL.skip (d := 6) (by rfl) (by rfl) (by rfl) (by rfl) ?_
    refine WL.skip (d := 6) (by rfl) (by rfl) (by rfl) (by rfl) ?_
    refine WL.skip (d := 6) (by rfl) (by rfl) (by rfl) (by rfl) ?_
    refine WL.p (by rfl) (Yl.pickF (by rfl) (by rfl)) ?_
    refine WL.p (by rfl) (Yl.assign (by rfl)) ?_
    refine WL.next ?_
    refine WC.ret ?_
    refine fin1' rfl (by rfl) ?_
    refine RetP.mk hs ?_
    simp_all [TAddr.is]

end Go.Sw
