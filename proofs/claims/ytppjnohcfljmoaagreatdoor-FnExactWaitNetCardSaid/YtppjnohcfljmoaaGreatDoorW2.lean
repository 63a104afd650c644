/- Walks: what each function of the program returns, for every input. Printed by gen.py. -/
import Derived.Test.YtppjnohcfljmoaaGreatDoorW1
set_option linter.all false
namespace Go.Sw
open Go Go.RowKit Go.Proofs

theorem c_spec_ParsePolicy (s : Str) (w : World)  (hb : s.length ≤ 1048576) : Calls Tryz.prog 160 [S s].toArray w (Ret w (fun v w' => ∃ x : PPolicy, v = .tuple #[.agg (Ph.enc x).toArray, Bo (policyIs s)] ∧ x.lg = policyOf s ∧ Fresh w x w')) := by
  refine enterN 52 Tryz.func160 rfl rfl rfl ?_
  have hs := Sat.start w
  refine WC.seq ?_
  refine WL.r (by rfl) (Yr.alloc hs zt63) ?_
  clear hs; rintro _ w ⟨b1, rfl, hb, hs⟩; clear hb
  refine WL.p (by rfl) (Yl.assign (by rfl)) ?_
  refine WL.next ?_
  refine WC.seq' ?_
  refine WC.seq ?_
  refine WL.p (by rfl) (Yl.move (by rfl)) ?_
  refine WL.p (by rfl) (Yl.eqs (by rfl) (by rfl)) ?_
  refine WL.next ?_
  refine WC.condS (by rfl) (fun h1 => ?_) (fun h1 => ?_)
  ·
    replace h1 := of_decide_eq_true h1
    refine WC.seq ?_
    refine WL.p (by rfl) (Yl.build bt63 (by rfl) (by repeat (first | exact Fill.nil | (apply Fill.cons; rfl; rfl; rfl; repeat (first | (apply SetAt.here; repeat (first | exact Over.nil | apply Over.cons)) | apply SetAt.there))))) ?_
    refine WL.s (Yr.storeB hs (by rfl) (by rfl) (by rfl) (by repeat (first | exact Repl.here | apply Repl.there)) (by repeat (first | (apply SetAt.here; repeat (first | exact Over.nil | apply Over.cons)) | apply SetAt.there)) (by rfl) (by exact szf63)) ?_
    clear hs; rintro _ w hs
    refine WL.p (by rfl) (Yl.assign (by rfl)) ?_
    refine WL.next ?_
    refine WC.ret ?_
    refine At.thenret ?_
    refine fin2c rfl agg63 (by rfl) (by rfl) hs (by repeat (first | exact List.mem_cons_self | apply List.mem_cons_of_mem)) (by rfl) ?_
    refine Ret.mk hs ?_
    have hb9 : policyIs s = true := policyIs_nil h1
    exact ⟨⟨false, ⟨[], none, 0⟩, ⟨[], none, 0⟩, ⟨[], none, 0⟩, []⟩, by rw [hb9]; rfl, (policyOf_no (.inl h1)).symm, ⟨⟨[], PPolicy.zown _, .nil, fun b h => by cases h⟩⟩⟩
  ·
    replace h1 := of_decide_eq_false h1
    refine WC.skipn ?_
    refine WC.seq ?_
    refine WL.p (by rfl) (Yl.move (by rfl)) ?_
    refine WL.call hs (by rfl) (Yc.func (by rfl) fn192) (c_spec_l5Split _ 59 _ (by first | assumption | omega | (simp only [lsz] at *; omega) | (simp only [lsz, strsz, TPolicy.size, TCache.size, TAddr.size, TRequest.size, TEntry.size, TResponse.size, TLine.size] at *; omega) | (simp only [lsz_map, TPage.size, TBuilder.size, TNode.size, TToken.size, TTokenizer.size, TServer.size, TFile.size, TNet.size, TCache.size, TSheet.size, strsz] at *; omega) | (simp only [lsz_map, TPage.size, TBuilder.size, TNode.size, TToken.size, TTokenizer.size, TServer.size, TFile.size, TNet.size, TCache.size, TSheet.size, strsz, lsz] at *; omega))) ?_
    have hs0 := hs; clear hs; intro v w hb hR hs; clear hs
    obtain ⟨x2, rfl, hx2, hf2⟩ := hR
    obtain ⟨F2, hs⟩ := hf2.sat hs0 hb; clear hs0 hf2
    have hle2 := Sl.Ok.le (hs.okow (x := x2) (F := F2) (by repeat (first | exact List.mem_cons_self | apply List.mem_cons_of_mem)))
    refine WL.p (by rfl) (Yl.assign (by rfl)) ?_
    refine WL.next ?_
    refine WC.seq' ?_
    refine WC.seq ?_
    refine WL.p (by rfl) (Yl.move (by rfl)) ?_
    refine WL.p (by rfl) (Yl.len_sl slu53 (by rfl)) ?_
    refine WL.p (by rfl) (Yl.lss (by rfl) (by rfl)) ?_
    refine WL.next ?_
    refine WC.condS (by rfl) (fun h2 => ?_) (fun h2 => ?_)
    ·
      replace h2 := of_decide_eq_true h2
      refine WC.seq ?_
      refine WL.p (by rfl) (Yl.build bt63 (by rfl) (by repeat (first | exact Fill.nil | (apply Fill.cons; rfl; rfl; rfl; repeat (first | (apply SetAt.here; repeat (first | exact Over.nil | apply Over.cons)) | apply SetAt.there))))) ?_
      refine WL.s (Yr.storeB hs (by rfl) (by rfl) (by rfl) (by repeat (first | exact Repl.here | apply Repl.there)) (by repeat (first | (apply SetAt.here; repeat (first | exact Over.nil | apply Over.cons)) | apply SetAt.there)) (by rfl) (by exact szf63)) ?_
      clear hs; rintro _ w hs
      refine WL.p (by rfl) (Yl.assign (by rfl)) ?_
      refine WL.next ?_
      refine WC.ret ?_
      refine At.thenret ?_
      refine fin2c rfl agg63 (by rfl) (by rfl) hs (by repeat (first | exact List.mem_cons_self | apply List.mem_cons_of_mem)) (by rfl) ?_
      refine Ret.mk hs ?_
      have hb9 : policyIs s = false := policyIs_short h1 (by rw [← show x2.l = splitC 59 s from hx2]; omega)
      exact ⟨⟨false, ⟨[], none, 0⟩, ⟨[], none, 0⟩, ⟨[], none, 0⟩, []⟩, by rw [hb9]; rfl, (policyOf_no (.inr hb9)).symm, ⟨⟨[], PPolicy.zown _, .nil, fun b h => by cases h⟩⟩⟩
    ·
      replace h2 := of_decide_eq_false h2
      have h39 := getD_len (s := s) (i := 3)
      rw [← show x2.l = splitC 59 s from hx2] at h39
      refine WC.skipn ?_
      refine WC.anyn mixed hs ?_
      clear hs; intro w hs
      refine WA.p (i := 0) (by rfl) (by kernel_rfl) (by kernel_rfl) (by kernel_rfl) (by rfl) (hs.only (by repeat (first | exact Sel.nil | (apply Sel.cons; (repeat (first | exact Ext.here | apply Ext.there)))))) (fun w hs => Yl.move (by rfl)) ?_
      refine WA.p (i := 1) (by rfl) (by kernel_rfl) (by kernel_rfl) (by kernel_rfl) (by rfl) (hs.only (by repeat (first | exact Sel.nil | (apply Sel.cons; (repeat (first | exact Ext.here | apply Ext.there)))))) (fun w hs => Yl.indexAddr (k := 0) slt53 (by rfl) (by rfl) (hs.okow (x := x2) (F := F2) (by repeat (first | exact List.mem_cons_self | apply List.mem_cons_of_mem))) (by rfl) ((getD_some (i := 0) (z := ([] : Str)) (by omega)))) ?_
      refine WA.p (i := 2) (by rfl) (by kernel_rfl) (by kernel_rfl) (by kernel_rfl) (by rfl) (hs.only (by repeat (first | exact Sel.nil | (apply Sel.cons; (repeat (first | exact Ext.here | apply Ext.there)))))) (fun w hs => Yl.loadC0 sca9 (by rfl) (Sl.Ok.at_ (hs.okow (x := x2) (F := F2) (by repeat (first | exact List.mem_cons_self | apply List.mem_cons_of_mem))) ((getD_some (i := 0) (z := ([] : Str)) (by omega)))).2 (by rfl)) ?_
      refine WA.p (i := 5) (by rfl) (by kernel_rfl) (by kernel_rfl) (by kernel_rfl) (by rfl) (hs.only (by repeat (first | exact Sel.nil | (apply Sel.cons; (repeat (first | exact Ext.here | apply Ext.there)))))) (fun w hs => Yl.move (by rfl)) ?_
      refine WA.p (i := 6) (by rfl) (by kernel_rfl) (by kernel_rfl) (by kernel_rfl) (by rfl) (hs.only (by repeat (first | exact Sel.nil | (apply Sel.cons; (repeat (first | exact Ext.here | apply Ext.there)))))) (fun w hs => Yl.indexAddr (k := 1) slt53 (by rfl) (by rfl) (hs.okow (x := x2) (F := F2) (by repeat (first | exact List.mem_cons_self | apply List.mem_cons_of_mem))) (by rfl) ((getD_some (i := 1) (z := ([] : Str)) (by omega)))) ?_
      refine WA.p (i := 7) (by rfl) (by kernel_rfl) (by kernel_rfl) (by kernel_rfl) (by rfl) (hs.only (by repeat (first | exact Sel.nil | (apply Sel.cons; (repeat (first | exact Ext.here | apply Ext.there)))))) (fun w hs => Yl.loadC0 sca9 (by rfl) (Sl.Ok.at_ (hs.okow (x := x2) (F := F2) (by repeat (first | exact List.mem_cons_self | apply List.mem_cons_of_mem))) ((getD_some (i := 1) (z := ([] : Str)) (by omega)))).2 (by rfl)) ?_
      refine WA.p (i := 10) (by rfl) (by kernel_rfl) (by kernel_rfl) (by kernel_rfl) (by rfl) (hs.only (by repeat (first | exact Sel.nil | (apply Sel.cons; (repeat (first | exact Ext.here | apply Ext.there)))))) (fun w hs => Yl.move (by rfl)) ?_
      refine WA.p (i := 11) (by rfl) (by kernel_rfl) (by kernel_rfl) (by kernel_rfl) (by rfl) (hs.only (by repeat (first | exact Sel.nil | (apply Sel.cons; (repeat (first | exact Ext.here | apply Ext.there)))))) (fun w hs => Yl.indexAddr (k := 2) slt53 (by rfl) (by rfl) (hs.okow (x := x2) (F := F2) (by repeat (first | exact List.mem_cons_self | apply List.mem_cons_of_mem))) (by rfl) ((getD_some (i := 2) (z := ([] : Str)) (by omega)))) ?_
      refine WA.p (i := 12) (by rfl) (by kernel_rfl) (by kernel_rfl) (by kernel_rfl) (by rfl) (hs.only (by repeat (first | exact Sel.nil | (apply Sel.cons; (repeat (first | exact Ext.here | apply Ext.there)))))) (fun w hs => Yl.loadC0 sca9 (by rfl) (Sl.Ok.at_ (hs.okow (x := x2) (F := F2) (by repeat (first | exact List.mem_cons_self | apply List.mem_cons_of_mem))) ((getD_some (i := 2) (z := ([] : Str)) (by omega)))).2 (by rfl)) ?_
      refine WA.two (i := 3) (j := 16) (by kernel_rfl) ?_ ?_
      ·
        refine WI.call2 (i := 3) hs (fun _ hs => hs.only (by repeat (first | exact Sel.nil | (apply Sel.cons; (repeat (first | exact Ext.here | apply Ext.there)))))) (by rfl) (by rfl) (Yc.func (by rfl) fn192) (c_spec_l5Split _ 32 _ (by first | (have := getD_len (s := s) (i := 0); rw [← show x2.l = splitC 59 s from hx2] at this; omega) | (have := getD_len (s := s) (i := 1); rw [← show x2.l = splitC 59 s from hx2] at this; omega) | (have := getD_len (s := s) (i := 2); rw [← show x2.l = splitC 59 s from hx2] at this; omega) | (have := getD_len (s := s) (i := 3); rw [← show x2.l = splitC 59 s from hx2] at this; omega))) ?_
        have hs0 := hs; clear hs; intro v w hb hR hs; clear hs
        obtain ⟨x3, rfl, hx3, hf3⟩ := hR
        obtain ⟨F3, hs⟩ := hf3.sat hs0 hb; clear hs0 hf3
        have hle3 := Sl.Ok.le (hs.okow (x := x3) (F := F3) (by repeat (first | exact List.mem_cons_self | apply List.mem_cons_of_mem)))
        refine WA.p (i := 4) (by rfl) (by kernel_rfl) (by kernel_rfl) (by kernel_rfl) (by rfl) (hs.only (by repeat (first | exact Sel.nil | (apply Sel.cons; (repeat (first | exact Ext.here | apply Ext.there)))))) (fun w hs => Yl.slice_sl (s := x3) (l := 1) (h := x3.l.length) slt53 (by rfl) hle3 (by exact ⟨_, by rfl⟩) (by exact rfl) (by rw [hx3]; exact List.length_pos_iff.2 (splitC_ne _ _)) (by exact Nat.le_refl _)) ?_
        refine WA.two (i := 8) (j := 16) (by kernel_rfl) ?_ ?_
        ·
          refine WI.call2 (i := 8) hs (fun _ hs => hs.only (by repeat (first | exact Sel.nil | (apply Sel.cons; (repeat (first | exact Ext.here | apply Ext.there)))))) (by rfl) (by rfl) (Yc.func (by rfl) fn192) (c_spec_l5Split _ 32 _ (by first | (have := getD_len (s := s) (i := 0); rw [← show x2.l = splitC 59 s from hx2] at this; omega) | (have := getD_len (s := s) (i := 1); rw [← show x2.l = splitC 59 s from hx2] at this; omega) | (have := getD_len (s := s) (i := 2); rw [← show x2.l = splitC 59 s from hx2] at this; omega) | (have := getD_len (s := s) (i := 3); rw [← show x2.l = splitC 59 s from hx2] at this; omega))) ?_
          have hs0 := hs; clear hs; intro v w hb hR hs; clear hs
          obtain ⟨x4, rfl, hx4, hf4⟩ := hR
          obtain ⟨F4, hs⟩ := hf4.sat hs0 hb; clear hs0 hf4
          have hle4 := Sl.Ok.le (hs.okow (x := x4) (F := F4) (by repeat (first | exact List.mem_cons_self | apply List.mem_cons_of_mem)))
          refine WA.p (i := 9) (by rfl) (by kernel_rfl) (by kernel_rfl) (by kernel_rfl) (by rfl) (hs.only (by repeat (first | exact Sel.nil | (apply Sel.cons; (repeat (first | exact Ext.here | apply Ext.there)))))) (fun w hs => Yl.slice_sl (s := x4) (l := 1) (h := x4.l.length) slt53 (by rfl) hle4 (by exact ⟨_, by rfl⟩) (by exact rfl) (by rw [hx4]; exact List.length_pos_iff.2 (splitC_ne _ _)) (by exact Nat.le_refl _)) ?_
          refine WA.two (i := 13) (j := 16) (by kernel_rfl) ?_ ?_
          ·
            refine WI.call2 (i := 13) hs (fun _ hs => hs.only (by repeat (first | exact Sel.nil | (apply Sel.cons; (repeat (first | exact Ext.here | apply Ext.there)))))) (by rfl) (by rfl) (Yc.func (by rfl) fn192) (c_spec_l5Split _ 32 _ (by first | (have := getD_len (s := s) (i := 0); rw [← show x2.l = splitC 59 s from hx2] at this; omega) | (have := getD_len (s := s) (i := 1); rw [← show x2.l = splitC 59 s from hx2] at this; omega) | (have := getD_len (s := s) (i := 2); rw [← show x2.l = splitC 59 s from hx2] at this; omega) | (have := getD_len (s := s) (i := 3); rw [← show x2.l = splitC 59 s from hx2] at this; omega))) ?_
            have hs0 := hs; clear hs; intro v w hb hR hs; clear hs
            obtain ⟨x5, rfl, hx5, hf5⟩ := hR
            obtain ⟨F5, hs⟩ := hf5.sat hs0 hb; clear hs0 hf5
            have hle5 := Sl.Ok.le (hs.okow (x := x5) (F := F5) (by repeat (first | exact List.mem_cons_self | apply List.mem_cons_of_mem)))
            refine WA.p (i := 14) (by rfl) (by kernel_rfl) (by kernel_rfl) (by kernel_rfl) (by rfl) (hs.only (by repeat (first | exact Sel.nil | (apply Sel.cons; (repeat (first | exact Ext.here | apply Ext.there)))))) (fun w hs => Yl.slice_sl (s := x5) (l := 1) (h := x5.l.length) slt53 (by rfl) hle5 (by exact ⟨_, by rfl⟩) (by exact rfl) (by rw [hx5]; exact List.length_pos_iff.2 (splitC_ne _ _)) (by exact Nat.le_refl _)) ?_
            refine WA.p (i := 15) (by rfl) (by kernel_rfl) (by kernel_rfl) (by kernel_rfl) (by rfl) (hs.only (by repeat (first | exact Sel.nil | (apply Sel.cons; (repeat (first | exact Ext.here | apply Ext.there)))))) (fun w hs => Yl.build bt63 (by rfl) (by repeat (first | exact Fill.nil | (apply Fill.cons; rfl; rfl; rfl; repeat (first | (apply SetAt.here; repeat (first | exact Over.nil | apply Over.cons)) | apply SetAt.there))))) ?_
            refine WA.r (i := 16) (by kernel_rfl) (by rfl) (by rfl) (Yr.alloc hs zt63) (by rintro _ w ⟨b6, rfl, hb, hs⟩; exact hs.only (by repeat (first | exact Sel.nil | (apply Sel.cons; (repeat (first | exact Ext.here | apply Ext.there)))))) ?_
            clear hs; rintro _ w ⟨b6, rfl, hb, hs⟩; clear hb
            refine WA.s (i := 17) (by kernel_rfl) (by rfl) (Yr.storeB hs (by rfl) (by rfl) (by rfl) (by repeat (first | exact Repl.here | apply Repl.there)) (by repeat (first | (apply SetAt.here; repeat (first | exact Over.nil | apply Over.cons)) | apply SetAt.there)) (by rfl) (by exact szf63)) (by rintro _ w hs; exact hs.only (by repeat (first | exact Sel.nil | (apply Sel.cons; (repeat (first | exact Ext.here | apply Ext.there)))))) ?_
            clear hs; rintro _ w hs
            refine WA.donen (by kernel_rfl) ?_
            refine WC.seq' ?_
            refine WC.seq ?_
            refine WL.p (by rfl) (Yl.move (by rfl)) ?_
            refine WL.p (by rfl) (Yl.len_sl slu53 (by rfl)) ?_
            refine WL.p (by rfl) (Yl.gtr (by rfl) (by rfl)) ?_
            refine WL.p (by rfl) (Yl.move (by rfl)) ?_
            refine WL.split (d := 34) (by rfl) (fun h3 => ?_) (fun h3 => ?_)
            ·
              replace h3 := of_decide_eq_true h3
              refine WL.run (d := 34) (by rfl) (by rfl) ?_
              refine WL.p (by rfl) (Yl.move (by rfl)) ?_
              refine WL.run (d := 34) (by rfl) (by rfl) ?_
              refine WL.p (by rfl) (Yl.indexAddr (k := 3) slt53 (by rfl) (by rfl) (hs.okow (x := x2) (F := F2) (by repeat (first | exact List.mem_cons_self | apply List.mem_cons_of_mem))) (by rfl) ((getD_some (i := 3) (z := ([] : Str)) (by omega)))) ?_
              refine WL.run (d := 34) (by rfl) (by rfl) ?_
              refine WL.p (by rfl) (Yl.loadC0 sca9 (by rfl) (Sl.Ok.at_ (hs.okow (x := x2) (F := F2) (by repeat (first | exact List.mem_cons_self | apply List.mem_cons_of_mem))) ((getD_some (i := 3) (z := ([] : Str)) (by omega)))).2 (by rfl)) ?_
              refine WL.run (d := 34) (by rfl) (by rfl) ?_
              refine WL.p (by rfl) (Yl.len_str str9 (by rfl)) ?_
              refine WL.run (d := 34) (by rfl) (by rfl) ?_
              refine WL.p (by rfl) (Yl.gtr (by rfl) (by rfl)) ?_
              refine WL.p (by rfl) (Yl.pickT (by rfl) (by rfl)) ?_
              refine WL.next ?_
              refine WC.condS (by rfl) (fun h4 => ?_) (fun h4 => ?_)
              ·
                replace h4 := of_decide_eq_true h4
                refine WC.region ?_
                refine WL.p (by rfl) (Yl.move (by rfl)) ?_
                refine WL.p (by rfl) (Yl.indexAddr (k := 3) slt53 (by rfl) (by rfl) (hs.okow (x := x2) (F := F2) (by repeat (first | exact List.mem_cons_self | apply List.mem_cons_of_mem))) (by rfl) ((getD_some (i := 3) (z := ([] : Str)) (by omega)))) ?_
                refine WL.p (by rfl) (Yl.loadC0 sca9 (by rfl) (Sl.Ok.at_ (hs.okow (x := x2) (F := F2) (by repeat (first | exact List.mem_cons_self | apply List.mem_cons_of_mem))) ((getD_some (i := 3) (z := ([] : Str)) (by omega)))).2 (by rfl)) ?_
                refine WL.p (by rfl) (Yl.slice_str (l := 6) str9 (by rfl) (by exact ⟨_, by rfl⟩) (by exact rfl) (by omega) (by omega)) ?_
                refine WL.p (by rfl) (Yl.fieldAddr fa63_4 (by rfl)) ?_
                refine WL.s (Yr.storeB hs (by rfl) (by rfl) (by rfl) (by repeat (first | exact Repl.here | apply Repl.there)) (by repeat (first | (apply SetAt.here; repeat (first | exact Over.nil | apply Over.cons)) | apply SetAt.there)) (by rfl) (by exact szf9)) ?_
                clear hs; rintro _ w hs
                refine WL.nil ?_
                refine At.then_ ?_
                refine WC.seq' ?_
                refine WC.seq ?_
                refine WL.p (by rfl) (Yl.loadAB agg63 (by rfl) hs (by repeat (first | exact List.mem_cons_self | apply List.mem_cons_of_mem)) (by rfl) (by rfl)) ?_
                have hpl9 : PPolicy.lg (⟨true, (x3.cut 1 x3.l.length), (x4.cut 1 x4.l.length), (x5.cut 1 x5.l.length), (((x2.l.getD 3 []).drop 6).take ((x2.l.getD 3 []).length - 6))⟩ : PPolicy) = polS s := by
                  have e2 : x2.l = splitC 59 s := hx2
                  have g0 : x3.l = splitC 32 ((splitC 59 s).getD 0 []) := by rw [← e2]; exact hx3
                  have g1 : x4.l = splitC 32 ((splitC 59 s).getD 1 []) := by rw [← e2]; exact hx4
                  have g2 : x5.l = splitC 32 ((splitC 59 s).getD 2 []) := by rw [← e2]; exact hx5
                  have c0 : (x3.cut 1 x3.l.length).l = (splitC 32 ((splitC 59 s).getD 0 [])).tail := by rw [Sl.cut_full, g0, List.drop_one]
                  have c1 : (x4.cut 1 x4.l.length).l = (splitC 32 ((splitC 59 s).getD 1 [])).tail := by rw [Sl.cut_full, g1, List.drop_one]
                  have c2 : (x5.cut 1 x5.l.length).l = (splitC 32 ((splitC 59 s).getD 2 [])).tail := by rw [Sl.cut_full, g2, List.drop_one]
                  simp only [PPolicy.lg, polS, polOf, c0, c1, c2, TPolicy.mk.injEq, true_and]
                  rw [← e2]
                  first
                    | (rw [if_neg (show ¬ 3 < x2.l.length from fun h => by omega)]; done)
                    | (rw [if_pos (show 3 < x2.l.length from Int.ofNat_lt.1 (by omega))]; done)
                    | (rw [if_pos (show 3 < x2.l.length from Int.ofNat_lt.1 (by omega))]
                       simp only [nonceS, nonceI]
                       first
                         | (rfl; done)
                         | (rw [if_neg (by omega)]; done)
                         | (rw [if_pos (by omega), List.take_of_length_le (by simp)]; done)
                         | (rw [if_pos (by omega)]; done))
                refine WL.callp hs (by rfl) (Yc.func (by rfl) fn193) (c_spec_FormatPolicy (⟨true, (x3.cut 1 x3.l.length), (x4.cut 1 x4.l.length), (x5.cut 1 x5.l.length), (((x2.l.getD 3 []).drop 6).take ((x2.l.getD 3 []).length - 6))⟩ : PPolicy) _ ⟨trivial, (Sl.Ok.cut (hs.okow (x := x3) (F := F3) (by repeat (first | exact List.mem_cons_self | apply List.mem_cons_of_mem))) (by rw [hx3]; exact List.length_pos_iff.2 (splitC_ne _ _)) (by exact Nat.le_refl _)), (Sl.Ok.cut (hs.okow (x := x4) (F := F4) (by repeat (first | exact List.mem_cons_self | apply List.mem_cons_of_mem))) (by rw [hx4]; exact List.length_pos_iff.2 (splitC_ne _ _)) (by exact Nat.le_refl _)), (Sl.Ok.cut (hs.okow (x := x5) (F := F5) (by repeat (first | exact List.mem_cons_self | apply List.mem_cons_of_mem))) (by rw [hx5]; exact List.length_pos_iff.2 (splitC_ne _ _)) (by exact Nat.le_refl _)), (by show WfS _; unfold WfS; simp only [List.length_take, List.length_drop]; omega)⟩ (by rw [hpl9]; have := polS_size (s := s) (by rw [← show x2.l = splitC 59 s from hx2]; omega); omega)) ?_
                clear hs; intro w hs
                refine WL.p (by rfl) (Yl.move (by rfl)) ?_
                refine WL.p (by rfl) (Yl.nes (by rfl) (by rfl)) ?_
                refine WL.next ?_
                refine WC.condS (by rfl) (fun h5 => ?_) (fun h5 => ?_)
                ·
                  replace h5 := not_eq_true h5
                  replace h5 := of_decide_eq_false h5
                  refine WC.seq ?_
                  refine WL.p (by rfl) (Yl.build bt63 (by rfl) (by repeat (first | exact Fill.nil | (apply Fill.cons; rfl; rfl; rfl; repeat (first | (apply SetAt.here; repeat (first | exact Over.nil | apply Over.cons)) | apply SetAt.there))))) ?_
                  refine WL.s (Yr.storeB hs (by rfl) (by rfl) (by rfl) (by repeat (first | exact Repl.here | apply Repl.there)) (by repeat (first | (apply SetAt.here; repeat (first | exact Over.nil | apply Over.cons)) | apply SetAt.there)) (by rfl) (by exact szf63)) ?_
                  clear hs; rintro _ w hs
                  refine WL.p (by rfl) (Yl.assign (by rfl)) ?_
                  refine WL.next ?_
                  refine WC.ret ?_
                  refine At.thenret ?_
                  refine fin2c rfl agg63 (by rfl) (by rfl) hs (by repeat (first | exact List.mem_cons_self | apply List.mem_cons_of_mem)) (by rfl) ?_
                  refine Ret.mk hs ?_
                  rw [hpl9] at h5
                  have hb9 : policyIs s = false := policyIs_bad h1 h5
                  exact ⟨⟨false, ⟨[], none, 0⟩, ⟨[], none, 0⟩, ⟨[], none, 0⟩, []⟩, by rw [hb9]; rfl, (policyOf_no (.inr hb9)).symm, ⟨⟨[], PPolicy.zown _, .nil, fun b h => by cases h⟩⟩⟩
                ·
                  replace h5 := not_eq_false h5
                  replace h5 := of_decide_eq_true h5
                  refine WC.skipn ?_
                  refine WC.seq ?_
                  refine WL.p (by rfl) (Yl.loadAB agg63 (by rfl) hs (by repeat (first | exact List.mem_cons_self | apply List.mem_cons_of_mem)) (by rfl) (by rfl)) ?_
                  refine WL.s (Yr.storeB hs (by rfl) (by rfl) (by rfl) (by repeat (first | exact Repl.here | apply Repl.there)) (by repeat (first | (apply SetAt.here; repeat (first | exact Over.nil | apply Over.cons)) | apply SetAt.there)) (by rfl) (by exact szf63)) ?_
                  clear hs; rintro _ w hs
                  refine WL.p (by rfl) (Yl.assign (by rfl)) ?_
                  refine WL.next ?_
                  refine WC.ret ?_
                  refine fin2c rfl agg63 (by rfl) (by rfl) hs (by repeat (first | exact List.mem_cons_self | apply List.mem_cons_of_mem)) (by rfl) ?_
                  refine Ret.mk hs ?_
                  rw [hpl9] at h5
                  have hq9 : x2.l = splitC 59 s := hx2
                  have h49 : 3 ≤ (splitC 59 s).length := by rw [← hq9]; omega
                  have hb9 : policyIs s = true := policyIs_good h5 h49
                  obtain ⟨G90, hs⟩ := Sat.cutow (lo := 1) (hi := x3.l.length) (hs.sel (D := [ow x3 F3]) (by repeat (first | exact Sel.nil | (apply Sel.cons; (repeat (first | exact Ext.here | apply Ext.there)))))) (by rw [hx3]; exact List.length_pos_iff.2 (splitC_ne _ _)) (Nat.le_refl _)
                  obtain ⟨G91, hs⟩ := Sat.cutow (lo := 1) (hi := x4.l.length) (hs.sel (D := [ow x4 F4]) (by repeat (first | exact Sel.nil | (apply Sel.cons; (repeat (first | exact Ext.here | apply Ext.there)))))) (by rw [hx4]; exact List.length_pos_iff.2 (splitC_ne _ _)) (Nat.le_refl _)
                  obtain ⟨G92, hs⟩ := Sat.cutow (lo := 1) (hi := x5.l.length) (hs.sel (D := [ow x5 F5]) (by repeat (first | exact Sel.nil | (apply Sel.cons; (repeat (first | exact Ext.here | apply Ext.there)))))) (by rw [hx5]; exact List.length_pos_iff.2 (splitC_ne _ _)) (Nat.le_refl _)
                  refine ⟨(⟨true, (x3.cut 1 x3.l.length), (x4.cut 1 x4.l.length), (x5.cut 1 x5.l.length), (((x2.l.getD 3 []).drop 6).take ((x2.l.getD 3 []).length - 6))⟩ : PPolicy), by rw [hb9]; rfl, hpl9.trans (policyOf_good h1 hb9).symm, ?_⟩
                  exact (PPolicy.join _ (hs.only (D := [ow (x3.cut 1 x3.l.length) G90, ow (x4.cut 1 x4.l.length) G91, ow (x5.cut 1 x5.l.length) G92]) (by repeat (first | exact Sel.nil | (apply Sel.cons; (repeat (first | exact Ext.here | apply Ext.there)))))) trivial (by show WfS _; unfold WfS; first | (simp only [List.length_take, List.length_drop]; omega) | simp)).fresh List.mem_cons_self
              ·
                replace h4 := of_decide_eq_false h4
                refine WC.skipn ?_
                refine WC.seq' ?_
                refine WC.seq ?_
                refine WL.p (by rfl) (Yl.loadAB agg63 (by rfl) hs (by repeat (first | exact List.mem_cons_self | apply List.mem_cons_of_mem)) (by rfl) (by rfl)) ?_
                have hpl9 : PPolicy.lg (⟨true, (x3.cut 1 x3.l.length), (x4.cut 1 x4.l.length), (x5.cut 1 x5.l.length), ([] : Str)⟩ : PPolicy) = polS s := by
                  have e2 : x2.l = splitC 59 s := hx2
                  have g0 : x3.l = splitC 32 ((splitC 59 s).getD 0 []) := by rw [← e2]; exact hx3
                  have g1 : x4.l = splitC 32 ((splitC 59 s).getD 1 []) := by rw [← e2]; exact hx4
                  have g2 : x5.l = splitC 32 ((splitC 59 s).getD 2 []) := by rw [← e2]; exact hx5
                  have c0 : (x3.cut 1 x3.l.length).l = (splitC 32 ((splitC 59 s).getD 0 [])).tail := by rw [Sl.cut_full, g0, List.drop_one]
                  have c1 : (x4.cut 1 x4.l.length).l = (splitC 32 ((splitC 59 s).getD 1 [])).tail := by rw [Sl.cut_full, g1, List.drop_one]
                  have c2 : (x5.cut 1 x5.l.length).l = (splitC 32 ((splitC 59 s).getD 2 [])).tail := by rw [Sl.cut_full, g2, List.drop_one]
                  simp only [PPolicy.lg, polS, polOf, c0, c1, c2, TPolicy.mk.injEq, true_and]
                  rw [← e2]
                  first
                    | (rw [if_neg (show ¬ 3 < x2.l.length from fun h => by omega)]; done)
                    | (rw [if_pos (show 3 < x2.l.length from Int.ofNat_lt.1 (by omega))]; done)
                    | (rw [if_pos (show 3 < x2.l.length from Int.ofNat_lt.1 (by omega))]
                       simp only [nonceS, nonceI]
                       first
                         | (rfl; done)
                         | (rw [if_neg (by omega)]; done)
                         | (rw [if_pos (by omega), List.take_of_length_le (by simp)]; done)
                         | (rw [if_pos (by omega)]; done))
                refine WL.callp hs (by rfl) (Yc.func (by rfl) fn193) (c_spec_FormatPolicy (⟨true, (x3.cut 1 x3.l.length), (x4.cut 1 x4.l.length), (x5.cut 1 x5.l.length), ([] : Str)⟩ : PPolicy) _ ⟨trivial, (Sl.Ok.cut (hs.okow (x := x3) (F := F3) (by repeat (first | exact List.mem_cons_self | apply List.mem_cons_of_mem))) (by rw [hx3]; exact List.length_pos_iff.2 (splitC_ne _ _)) (by exact Nat.le_refl _)), (Sl.Ok.cut (hs.okow (x := x4) (F := F4) (by repeat (first | exact List.mem_cons_self | apply List.mem_cons_of_mem))) (by rw [hx4]; exact List.length_pos_iff.2 (splitC_ne _ _)) (by exact Nat.le_refl _)), (Sl.Ok.cut (hs.okow (x := x5) (F := F5) (by repeat (first | exact List.mem_cons_self | apply List.mem_cons_of_mem))) (by rw [hx5]; exact List.length_pos_iff.2 (splitC_ne _ _)) (by exact Nat.le_refl _)), (show WfS [] from Nat.zero_le _)⟩ (by rw [hpl9]; have := polS_size (s := s) (by rw [← show x2.l = splitC 59 s from hx2]; omega); omega)) ?_
                clear hs; intro w hs
                refine WL.p (by rfl) (Yl.move (by rfl)) ?_
                refine WL.p (by rfl) (Yl.nes (by rfl) (by rfl)) ?_
                refine WL.next ?_
                refine WC.condS (by rfl) (fun h5 => ?_) (fun h5 => ?_)
                ·
                  replace h5 := not_eq_true h5
                  replace h5 := of_decide_eq_false h5
                  refine WC.seq ?_
                  refine WL.p (by rfl) (Yl.build bt63 (by rfl) (by repeat (first | exact Fill.nil | (apply Fill.cons; rfl; rfl; rfl; repeat (first | (apply SetAt.here; repeat (first | exact Over.nil | apply Over.cons)) | apply SetAt.there))))) ?_
                  refine WL.s (Yr.storeB hs (by rfl) (by rfl) (by rfl) (by repeat (first | exact Repl.here | apply Repl.there)) (by repeat (first | (apply SetAt.here; repeat (first | exact Over.nil | apply Over.cons)) | apply SetAt.there)) (by rfl) (by exact szf63)) ?_
                  clear hs; rintro _ w hs
                  refine WL.p (by rfl) (Yl.assign (by rfl)) ?_
                  refine WL.next ?_
                  refine WC.ret ?_
                  refine At.thenret ?_
                  refine fin2c rfl agg63 (by rfl) (by rfl) hs (by repeat (first | exact List.mem_cons_self | apply List.mem_cons_of_mem)) (by rfl) ?_
                  refine Ret.mk hs ?_
                  rw [hpl9] at h5
                  have hb9 : policyIs s = false := policyIs_bad h1 h5
                  exact ⟨⟨false, ⟨[], none, 0⟩, ⟨[], none, 0⟩, ⟨[], none, 0⟩, []⟩, by rw [hb9]; rfl, (policyOf_no (.inr hb9)).symm, ⟨⟨[], PPolicy.zown _, .nil, fun b h => by cases h⟩⟩⟩
                ·
                  replace h5 := not_eq_false h5
                  replace h5 := of_decide_eq_true h5
                  refine WC.skipn ?_
                  refine WC.seq ?_
                  refine WL.p (by rfl) (Yl.loadAB agg63 (by rfl) hs (by repeat (first | exact List.mem_cons_self | apply List.mem_cons_of_mem)) (by rfl) (by rfl)) ?_
                  refine WL.s (Yr.storeB hs (by rfl) (by rfl) (by rfl) (by repeat (first | exact Repl.here | apply Repl.there)) (by repeat (first | (apply SetAt.here; repeat (first | exact Over.nil | apply Over.cons)) | apply SetAt.there)) (by rfl) (by exact szf63)) ?_
                  clear hs; rintro _ w hs
                  refine WL.p (by rfl) (Yl.assign (by rfl)) ?_
                  refine WL.next ?_
                  refine WC.ret ?_
                  refine fin2c rfl agg63 (by rfl) (by rfl) hs (by repeat (first | exact List.mem_cons_self | apply List.mem_cons_of_mem)) (by rfl) ?_
                  refine Ret.mk hs ?_
                  rw [hpl9] at h5
                  have hq9 : x2.l = splitC 59 s := hx2
                  have h49 : 3 ≤ (splitC 59 s).length := by rw [← hq9]; omega
                  have hb9 : policyIs s = true := policyIs_good h5 h49
                  obtain ⟨G90, hs⟩ := Sat.cutow (lo := 1) (hi := x3.l.length) (hs.sel (D := [ow x3 F3]) (by repeat (first | exact Sel.nil | (apply Sel.cons; (repeat (first | exact Ext.here | apply Ext.there)))))) (by rw [hx3]; exact List.length_pos_iff.2 (splitC_ne _ _)) (Nat.le_refl _)
                  obtain ⟨G91, hs⟩ := Sat.cutow (lo := 1) (hi := x4.l.length) (hs.sel (D := [ow x4 F4]) (by repeat (first | exact Sel.nil | (apply Sel.cons; (repeat (first | exact Ext.here | apply Ext.there)))))) (by rw [hx4]; exact List.length_pos_iff.2 (splitC_ne _ _)) (Nat.le_refl _)
                  obtain ⟨G92, hs⟩ := Sat.cutow (lo := 1) (hi := x5.l.length) (hs.sel (D := [ow x5 F5]) (by repeat (first | exact Sel.nil | (apply Sel.cons; (repeat (first | exact Ext.here | apply Ext.there)))))) (by rw [hx5]; exact List.length_pos_iff.2 (splitC_ne _ _)) (Nat.le_refl _)
                  refine ⟨(⟨true, (x3.cut 1 x3.l.length), (x4.cut 1 x4.l.length), (x5.cut 1 x5.l.length), ([] : Str)⟩ : PPolicy), by rw [hb9]; rfl, hpl9.trans (policyOf_good h1 hb9).symm, ?_⟩
                  exact (PPolicy.join _ (hs.only (D := [ow (x3.cut 1 x3.l.length) G90, ow (x4.cut 1 x4.l.length) G91, ow (x5.cut 1 x5.l.length) G92]) (by repeat (first | exact Sel.nil | (apply Sel.cons; (repeat (first | exact Ext.here | apply Ext.there)))))) trivial (by show WfS _; unfold WfS; first | (simp only [List.length_take, List.length_drop]; omega) | simp)).fresh List.mem_cons_self
            ·
              replace h3 := of_decide_eq_false h3
              refine WL.skip (d := 34) (by rfl) (by rfl) (by rfl) (by rfl) ?_
              refine WL.skip (d := 34) (by rfl) (by rfl) (by rfl) (by rfl) ?_
              refine WL.skip (d := 34) (by rfl) (by rfl) (by rfl) (by rfl) ?_
              refine WL.skip (d := 34) (by rfl) (by rfl) (by rfl) (by rfl) ?_
              refine WL.skip (d := 34) (by rfl) (by rfl) (by rfl) (by rfl) ?_
              refine WL.p (by rfl) (Yl.pickF (by rfl) (by rfl)) ?_
              refine WL.next ?_
              refine WC.condF (by rfl) ?_
              refine WC.skipn ?_
              refine WC.seq' ?_
              refine WC.seq ?_
              refine WL.p (by rfl) (Yl.loadAB agg63 (by rfl) hs (by repeat (first | exact List.mem_cons_self | apply List.mem_cons_of_mem)) (by rfl) (by rfl)) ?_
              have hpl9 : PPolicy.lg (⟨true, (x3.cut 1 x3.l.length), (x4.cut 1 x4.l.length), (x5.cut 1 x5.l.length), ([] : Str)⟩ : PPolicy) = polS s := by
                have e2 : x2.l = splitC 59 s := hx2
                have g0 : x3.l = splitC 32 ((splitC 59 s).getD 0 []) := by rw [← e2]; exact hx3
                have g1 : x4.l = splitC 32 ((splitC 59 s).getD 1 []) := by rw [← e2]; exact hx4
                have g2 : x5.l = splitC 32 ((splitC 59 s).getD 2 []) := by rw [← e2]; exact hx5
                have c0 : (x3.cut 1 x3.l.length).l = (splitC 32 ((splitC 59 s).getD 0 [])).tail := by rw [Sl.cut_full, g0, List.drop_one]
                have c1 : (x4.cut 1 x4.l.length).l = (splitC 32 ((splitC 59 s).getD 1 [])).tail := by rw [Sl.cut_full, g1, List.drop_one]
                have c2 : (x5.cut 1 x5.l.length).l = (splitC 32 ((splitC 59 s).getD 2 [])).tail := by rw [Sl.cut_full, g2, List.drop_one]
                simp only [PPolicy.lg, polS, polOf, c0, c1, c2, TPolicy.mk.injEq, true_and]
                rw [← e2]
                first
                  | (rw [if_neg (show ¬ 3 < x2.l.length from fun h => by omega)]; done)
                  | (rw [if_pos (show 3 < x2.l.length from Int.ofNat_lt.1 (by omega))]; done)
                  | (rw [if_pos (show 3 < x2.l.length from Int.ofNat_lt.1 (by omega))]
                     simp only [nonceS, nonceI]
                     first
                       | (rfl; done)
                       | (rw [if_neg (by omega)]; done)
                       | (rw [if_pos (by omega), List.take_of_length_le (by simp)]; done)
                       | (rw [if_pos (by omega)]; done))
              refine WL.callp hs (by rfl) (Yc.func (by rfl) fn193) (c_spec_FormatPolicy (⟨true, (x3.cut 1 x3.l.length), (x4.cut 1 x4.l.length), (x5.cut 1 x5.l.length), ([] : Str)⟩ : PPolicy) _ ⟨trivial, (Sl.Ok.cut (hs.okow (x := x3) (F := F3) (by repeat (first | exact List.mem_cons_self | apply List.mem_cons_of_mem))) (by rw [hx3]; exact List.length_pos_iff.2 (splitC_ne _ _)) (by exact Nat.le_refl _)), (Sl.Ok.cut (hs.okow (x := x4) (F := F4) (by repeat (first | exact List.mem_cons_self | apply List.mem_cons_of_mem))) (by rw [hx4]; exact List.length_pos_iff.2 (splitC_ne _ _)) (by exact Nat.le_refl _)), (Sl.Ok.cut (hs.okow (x := x5) (F := F5) (by repeat (first | exact List.mem_cons_self | apply List.mem_cons_of_mem))) (by rw [hx5]; exact List.length_pos_iff.2 (splitC_ne _ _)) (by exact Nat.le_refl _)), (show WfS [] from Nat.zero_le _)⟩ (by rw [hpl9]; have := polS_size (s := s) (by rw [← show x2.l = splitC 59 s from hx2]; omega); omega)) ?_
              clear hs; intro w hs
              refine WL.p (by rfl) (Yl.move (by rfl)) ?_
              refine WL.p (by rfl) (Yl.nes (by rfl) (by rfl)) ?_
              refine WL.next ?_
              refine WC.condS (by rfl) (fun h4 => ?_) (fun h4 => ?_)
              ·
                replace h4 := not_eq_true h4
                replace h4 := of_decide_eq_false h4
                refine WC.seq ?_
                refine WL.p (by rfl) (Yl.build bt63 (by rfl) (by repeat (first | exact Fill.nil | (apply Fill.cons; rfl; rfl; rfl; repeat (first | (apply SetAt.here; repeat (first | exact Over.nil | apply Over.cons)) | apply SetAt.there))))) ?_
                refine WL.s (Yr.storeB hs (by rfl) (by rfl) (by rfl) (by repeat (first | exact Repl.here | apply Repl.there)) (by repeat (first | (apply SetAt.here; repeat (first | exact Over.nil | apply Over.cons)) | apply SetAt.there)) (by rfl) (by exact szf63)) ?_
                clear hs; rintro _ w hs
                refine WL.p (by rfl) (Yl.assign (by rfl)) ?_
                refine WL.next ?_
                refine WC.ret ?_
                refine At.thenret ?_
                refine fin2c rfl agg63 (by rfl) (by rfl) hs (by repeat (first | exact List.mem_cons_self | apply List.mem_cons_of_mem)) (by rfl) ?_
                refine Ret.mk hs ?_
                rw [hpl9] at h4
                have hb9 : policyIs s = false := policyIs_bad h1 h4
                exact ⟨⟨false, ⟨[], none, 0⟩, ⟨[], none, 0⟩, ⟨[], none, 0⟩, []⟩, by rw [hb9]; rfl, (policyOf_no (.inr hb9)).symm, ⟨⟨[], PPolicy.zown _, .nil, fun b h => by cases h⟩⟩⟩
              ·
                replace h4 := not_eq_false h4
                replace h4 := of_decide_eq_true h4
                refine WC.skipn ?_
                refine WC.seq ?_
                refine WL.p (by rfl) (Yl.loadAB agg63 (by rfl) hs (by repeat (first | exact List.mem_cons_self | apply List.mem_cons_of_mem)) (by rfl) (by rfl)) ?_
                refine WL.s (Yr.storeB hs (by rfl) (by rfl) (by rfl) (by repeat (first | exact Repl.here | apply Repl.there)) (by repeat (first | (apply SetAt.here; repeat (first | exact Over.nil | apply Over.cons)) | apply SetAt.there)) (by rfl) (by exact szf63)) ?_
                clear hs; rintro _ w hs
                refine WL.p (by rfl) (Yl.assign (by rfl)) ?_
                refine WL.next ?_
                refine WC.ret ?_
                refine fin2c rfl agg63 (by rfl) (by rfl) hs (by repeat (first | exact List.mem_cons_self | apply List.mem_cons_of_mem)) (by rfl) ?_
                refine Ret.mk hs ?_
                rw [hpl9] at h4
                have hq9 : x2.l = splitC 59 s := hx2
                have h49 : 3 ≤ (splitC 59 s).length := by rw [← hq9]; omega
                have hb9 : policyIs s = true := policyIs_good h4 h49
                obtain ⟨G90, hs⟩ := Sat.cutow (lo := 1) (hi := x3.l.length) (hs.sel (D := [ow x3 F3]) (by repeat (first | exact Sel.nil | (apply Sel.cons; (repeat (first | exact Ext.here | apply Ext.there)))))) (by rw [hx3]; exact List.length_pos_iff.2 (splitC_ne _ _)) (Nat.le_refl _)
                obtain ⟨G91, hs⟩ := Sat.cutow (lo := 1) (hi := x4.l.length) (hs.sel (D := [ow x4 F4]) (by repeat (first | exact Sel.nil | (apply Sel.cons; (repeat (first | exact Ext.here | apply Ext.there)))))) (by rw [hx4]; exact List.length_pos_iff.2 (splitC_ne _ _)) (Nat.le_refl _)
                obtain ⟨G92, hs⟩ := Sat.cutow (lo := 1) (hi := x5.l.length) (hs.sel (D := [ow x5 F5]) (by repeat (first | exact Sel.nil | (apply Sel.cons; (repeat (first | exact Ext.here | apply Ext.there)))))) (by rw [hx5]; exact List.length_pos_iff.2 (splitC_ne _ _)) (Nat.le_refl _)
                refine ⟨(⟨true, (x3.cut 1 x3.l.length), (x4.cut 1 x4.l.length), (x5.cut 1 x5.l.length), ([] : Str)⟩ : PPolicy), by rw [hb9]; rfl, hpl9.trans (policyOf_good h1 hb9).symm, ?_⟩
                exact (PPolicy.join _ (hs.only (D := [ow (x3.cut 1 x3.l.length) G90, ow (x4.cut 1 x4.l.length) G91, ow (x5.cut 1 x5.l.length) G92]) (by repeat (first | exact Sel.nil | (apply Sel.cons; (repeat (first | exact Ext.here | apply Ext.there)))))) trivial (by show WfS _; unfold WfS; first | (simp only [List.length_take, List.length_drop]; omega) | simp)).fresh List.mem_cons_self
          ·
            refine WI.r (i := 16) (by rfl) (by rfl) (Yr.alloc hs zt63) (by rintro _ w ⟨b7, rfl, hb, hs⟩; exact hs.only (by repeat (first | exact Sel.nil | (apply Sel.cons; (repeat (first | exact Ext.here | apply Ext.there)))))) ?_
            clear hs; rintro _ w ⟨b7, rfl, hb, hs⟩; clear hb
            refine WA.call2 (i := 13) hs (fun _ hs => hs.only (by repeat (first | exact Sel.nil | (apply Sel.cons; (repeat (first | exact Ext.here | apply Ext.there)))))) (by kernel_rfl) (by rfl) (by rfl) (Yc.func (by rfl) fn192) (c_spec_l5Split _ 32 _ (by first | (have := getD_len (s := s) (i := 0); rw [← show x2.l = splitC 59 s from hx2] at this; omega) | (have := getD_len (s := s) (i := 1); rw [← show x2.l = splitC 59 s from hx2] at this; omega) | (have := getD_len (s := s) (i := 2); rw [← show x2.l = splitC 59 s from hx2] at this; omega) | (have := getD_len (s := s) (i := 3); rw [← show x2.l = splitC 59 s from hx2] at this; omega))) ?_
            have hs0 := hs; clear hs; intro v w hb hR hs; clear hs
            obtain ⟨x8, rfl, hx8, hf8⟩ := hR
            obtain ⟨F8, hs⟩ := hf8.sat hs0 hb; clear hs0 hf8
            have hle8 := Sl.Ok.le (hs.okow (x := x8) (F := F8) (by repeat (first | exact List.mem_cons_self | apply List.mem_cons_of_mem)))
            refine WA.r (i := 14) (by kernel_rfl) (by rfl) (by rfl) (Yl.yr (Yl.slice_sl (s := x8) (l := 1) (h := x8.l.length) slt53 (by rfl) hle8 (by exact ⟨_, by rfl⟩) (by exact rfl) (by rw [hx8]; exact List.length_pos_iff.2 (splitC_ne _ _)) (by exact Nat.le_refl _))) (by rintro _ _ ⟨rfl, rfl⟩; exact hs.only (by repeat (first | exact Sel.nil | (apply Sel.cons; (repeat (first | exact Ext.here | apply Ext.there)))))) ?_
            rintro _ _ ⟨rfl, rfl⟩
            refine WA.p (i := 15) (by rfl) (by kernel_rfl) (by kernel_rfl) (by kernel_rfl) (by rfl) (hs.only (by repeat (first | exact Sel.nil | (apply Sel.cons; (repeat (first | exact Ext.here | apply Ext.there)))))) (fun w hs => Yl.build bt63 (by rfl) (by repeat (first | exact Fill.nil | (apply Fill.cons; rfl; rfl; rfl; repeat (first | (apply SetAt.here; repeat (first | exact Over.nil | apply Over.cons)) | apply SetAt.there))))) ?_
            refine WA.s (i := 17) (by kernel_rfl) (by rfl) (Yr.storeB hs (by rfl) (by rfl) (by rfl) (by repeat (first | exact Repl.here | apply Repl.there)) (by repeat (first | (apply SetAt.here; repeat (first | exact Over.nil | apply Over.cons)) | apply SetAt.there)) (by rfl) (by exact szf63)) (by rintro _ w hs; exact hs.only (by repeat (first | exact Sel.nil | (apply Sel.cons; (repeat (first | exact Ext.here | apply Ext.there)))))) ?_
            clear hs; rintro _ w hs
            refine WA.donen (by kernel_rfl) ?_
            refine WC.seq' ?_
            refine WC.seq ?_
            refine WL.p (by rfl) (Yl.move (by rfl)) ?_
            refine WL.p (by rfl) (Yl.len_sl slu53 (by rfl)) ?_
            refine WL.p (by rfl) (Yl.gtr (by rfl) (by rfl)) ?_
            refine WL.p (by rfl) (Yl.move (by rfl)) ?_
            refine WL.split (d := 34) (by rfl) (fun h3 => ?_) (fun h3 => ?_)
            ·
              replace h3 := of_decide_eq_true h3
              refine WL.run (d := 34) (by rfl) (by rfl) ?_
              refine WL.p (by rfl) (Yl.move (by rfl)) ?_
              refine WL.run (d := 34) (by rfl) (by rfl) ?_
              refine WL.p (by rfl) (Yl.indexAddr (k := 3) slt53 (by rfl) (by rfl) (hs.okow (x := x2) (F := F2) (by repeat (first | exact List.mem_cons_self | apply List.mem_cons_of_mem))) (by rfl) ((getD_some (i := 3) (z := ([] : Str)) (by omega)))) ?_
              refine WL.run (d := 34) (by rfl) (by rfl) ?_
              refine WL.p (by rfl) (Yl.loadC0 sca9 (by rfl) (Sl.Ok.at_ (hs.okow (x := x2) (F := F2) (by repeat (first | exact List.mem_cons_self | apply List.mem_cons_of_mem))) ((getD_some (i := 3) (z := ([] : Str)) (by omega)))).2 (by rfl)) ?_
              refine WL.run (d := 34) (by rfl) (by rfl) ?_
              refine WL.p (by rfl) (Yl.len_str str9 (by rfl)) ?_
              refine WL.run (d := 34) (by rfl) (by rfl) ?_
              refine WL.p (by rfl) (Yl.gtr (by rfl) (by rfl)) ?_
              refine WL.p (by rfl) (Yl.pickT (by rfl) (by rfl)) ?_
              refine WL.next ?_
              refine WC.condS (by rfl) (fun h4 => ?_) (fun h4 => ?_)
              ·
                replace h4 := of_decide_eq_true h4
                refine WC.region ?_
                refine WL.p (by rfl) (Yl.move (by rfl)) ?_
                refine WL.p (by rfl) (Yl.indexAddr (k := 3) slt53 (by rfl) (by rfl) (hs.okow (x := x2) (F := F2) (by repeat (first | exact List.mem_cons_self | apply List.mem_cons_of_mem))) (by rfl) ((getD_some (i := 3) (z := ([] : Str)) (by omega)))) ?_
                refine WL.p (by rfl) (Yl.loadC0 sca9 (by rfl) (Sl.Ok.at_ (hs.okow (x := x2) (F := F2) (by repeat (first | exact List.mem_cons_self | apply List.mem_cons_of_mem))) ((getD_some (i := 3) (z := ([] : Str)) (by omega)))).2 (by rfl)) ?_
                refine WL.p (by rfl) (Yl.slice_str (l := 6) str9 (by rfl) (by exact ⟨_, by rfl⟩) (by exact rfl) (by omega) (by omega)) ?_
                refine WL.p (by rfl) (Yl.fieldAddr fa63_4 (by rfl)) ?_
                refine WL.s (Yr.storeB hs (by rfl) (by rfl) (by rfl) (by repeat (first | exact Repl.here | apply Repl.there)) (by repeat (first | (apply SetAt.here; repeat (first | exact Over.nil | apply Over.cons)) | apply SetAt.there)) (by rfl) (by exact szf9)) ?_
                clear hs; rintro _ w hs
                refine WL.nil ?_
                refine At.then_ ?_
                refine WC.seq' ?_
                refine WC.seq ?_
                refine WL.p (by rfl) (Yl.loadAB agg63 (by rfl) hs (by repeat (first | exact List.mem_cons_self | apply List.mem_cons_of_mem)) (by rfl) (by rfl)) ?_
                have hpl9 : PPolicy.lg (⟨true, (x3.cut 1 x3.l.length), (x4.cut 1 x4.l.length), (x8.cut 1 x8.l.length), (((x2.l.getD 3 []).drop 6).take ((x2.l.getD 3 []).length - 6))⟩ : PPolicy) = polS s := by
                  have e2 : x2.l = splitC 59 s := hx2
                  have g0 : x3.l = splitC 32 ((splitC 59 s).getD 0 []) := by rw [← e2]; exact hx3
                  have g1 : x4.l = splitC 32 ((splitC 59 s).getD 1 []) := by rw [← e2]; exact hx4
                  have g2 : x8.l = splitC 32 ((splitC 59 s).getD 2 []) := by rw [← e2]; exact hx8
                  have c0 : (x3.cut 1 x3.l.length).l = (splitC 32 ((splitC 59 s).getD 0 [])).tail := by rw [Sl.cut_full, g0, List.drop_one]
                  have c1 : (x4.cut 1 x4.l.length).l = (splitC 32 ((splitC 59 s).getD 1 [])).tail := by rw [Sl.cut_full, g1, List.drop_one]
                  have c2 : (x8.cut 1 x8.l.length).l = (splitC 32 ((splitC 59 s).getD 2 [])).tail := by rw [Sl.cut_full, g2, List.drop_one]
                  simp only [PPolicy.lg, polS, polOf, c0, c1, c2, TPolicy.mk.injEq, true_and]
                  rw [← e2]
                  first
                    | (rw [if_neg (show ¬ 3 < x2.l.length from fun h => by omega)]; done)
                    | (rw [if_pos (show 3 < x2.l.length from Int.ofNat_lt.1 (by omega))]; done)
                    | (rw [if_pos (show 3 < x2.l.length from Int.ofNat_lt.1 (by omega))]
                       simp only [nonceS, nonceI]
                       first
                         | (rfl; done)
                         | (rw [if_neg (by omega)]; done)
                         | (rw [if_pos (by omega), List.take_of_length_le (by simp)]; done)
                         | (rw [if_pos (by omega)]; done))
                refine WL.callp hs (by rfl) (Yc.func (by rfl) fn193) (c_spec_FormatPolicy (⟨true, (x3.cut 1 x3.l.length), (x4.cut 1 x4.l.length), (x8.cut 1 x8.l.length), (((x2.l.getD 3 []).drop 6).take ((x2.l.getD 3 []).length - 6))⟩ : PPolicy) _ ⟨trivial, (Sl.Ok.cut (hs.okow (x := x3) (F := F3) (by repeat (first | exact List.mem_cons_self | apply List.mem_cons_of_mem))) (by rw [hx3]; exact List.length_pos_iff.2 (splitC_ne _ _)) (by exact Nat.le_refl _)), (Sl.Ok.cut (hs.okow (x := x4) (F := F4) (by repeat (first | exact List.mem_cons_self | apply List.mem_cons_of_mem))) (by rw [hx4]; exact List.length_pos_iff.2 (splitC_ne _ _)) (by exact Nat.le_refl _)), (Sl.Ok.cut (hs.okow (x := x8) (F := F8) (by repeat (first | exact List.mem_cons_self | apply List.mem_cons_of_mem))) (by rw [hx8]; exact List.length_pos_iff.2 (splitC_ne _ _)) (by exact Nat.le_refl _)), (by show WfS _; unfold WfS; simp only [List.length_take, List.length_drop]; omega)⟩ (by rw [hpl9]; have := polS_size (s := s) (by rw [← show x2.l = splitC 59 s from hx2]; omega); omega)) ?_
                clear hs; intro w hs
                refine WL.p (by rfl) (Yl.move (by rfl)) ?_
                refine WL.p (by rfl) (Yl.nes (by rfl) (by rfl)) ?_
                refine WL.next ?_
                refine WC.condS (by rfl) (fun h5 => ?_) (fun h5 => ?_)
                ·
                  replace h5 := not_eq_true h5
                  replace h5 := of_decide_eq_false h5
                  refine WC.seq ?_
                  refine WL.p (by rfl) (Yl.build bt63 (by rfl) (by repeat (first | exact Fill.nil | (apply Fill.cons; rfl; rfl; rfl; repeat (first | (apply SetAt.here; repeat (first | exact Over.nil | apply Over.cons)) | apply SetAt.there))))) ?_
                  refine WL.s (Yr.storeB hs (by rfl) (by rfl) (by rfl) (by repeat (first | exact Repl.here | apply Repl.there)) (by repeat (first | (apply SetAt.here; repeat (first | exact Over.nil | apply Over.cons)) | apply SetAt.there)) (by rfl) (by exact szf63)) ?_
                  clear hs; rintro _ w hs
                  refine WL.p (by rfl) (Yl.assign (by rfl)) ?_
                  refine WL.next ?_
                  refine WC.ret ?_
                  refine At.thenret ?_
                  refine fin2c rfl agg63 (by rfl) (by rfl) hs (by repeat (first | exact List.mem_cons_self | apply List.mem_cons_of_mem)) (by rfl) ?_
                  refine Ret.mk hs ?_
                  rw [hpl9] at h5
                  have hb9 : policyIs s = false := policyIs_bad h1 h5
                  exact ⟨⟨false, ⟨[], none, 0⟩, ⟨[], none, 0⟩, ⟨[], none, 0⟩, []⟩, by rw [hb9]; rfl, (policyOf_no (.inr hb9)).symm, ⟨⟨[], PPolicy.zown _, .nil, fun b h => by cases h⟩⟩⟩
                ·
                  replace h5 := not_eq_false h5
                  replace h5 := of_decide_eq_true h5
                  refine WC.skipn ?_
                  refine WC.seq ?_
                  refine WL.p (by rfl) (Yl.loadAB agg63 (by rfl) hs (by repeat (first | exact List.mem_cons_self | apply List.mem_cons_of_mem)) (by rfl) (by rfl)) ?_
                  refine WL.s (Yr.storeB hs (by rfl) (by rfl) (by rfl) (by repeat (first | exact Repl.here | apply Repl.there)) (by repeat (first | (apply SetAt.here; repeat (first | exact Over.nil | apply Over.cons)) | apply SetAt.there)) (by rfl) (by exact szf63)) ?_
                  clear hs; rintro _ w hs
                  refine WL.p (by rfl) (Yl.assign (by rfl)) ?_
                  refine WL.next ?_
                  refine WC.ret ?_
                  refine fin2c rfl agg63 (by rfl) (by rfl) hs (by repeat (first | exact List.mem_cons_self | apply List.mem_cons_of_mem)) (by rfl) ?_
                  refine Ret.mk hs ?_
                  rw [hpl9] at h5
                  have hq9 : x2.l = splitC 59 s := hx2
                  have h49 : 3 ≤ (splitC 59 s).length := by rw [← hq9]; omega
                  have hb9 : policyIs s = true := policyIs_good h5 h49
                  obtain ⟨G90, hs⟩ := Sat.cutow (lo := 1) (hi := x3.l.length) (hs.sel (D := [ow x3 F3]) (by repeat (first | exact Sel.nil | (apply Sel.cons; (repeat (first | exact Ext.here | apply Ext.there)))))) (by rw [hx3]; exact List.length_pos_iff.2 (splitC_ne _ _)) (Nat.le_refl _)
                  obtain ⟨G91, hs⟩ := Sat.cutow (lo := 1) (hi := x4.l.length) (hs.sel (D := [ow x4 F4]) (by repeat (first | exact Sel.nil | (apply Sel.cons; (repeat (first | exact Ext.here | apply Ext.there)))))) (by rw [hx4]; exact List.length_pos_iff.2 (splitC_ne _ _)) (Nat.le_refl _)
                  obtain ⟨G92, hs⟩ := Sat.cutow (lo := 1) (hi := x8.l.length) (hs.sel (D := [ow x8 F8]) (by repeat (first | exact Sel.nil | (apply Sel.cons; (repeat (first | exact Ext.here | apply Ext.there)))))) (by rw [hx8]; exact List.length_pos_iff.2 (splitC_ne _ _)) (Nat.le_refl _)
                  refine ⟨(⟨true, (x3.cut 1 x3.l.length), (x4.cut 1 x4.l.length), (x8.cut 1 x8.l.length), (((x2.l.getD 3 []).drop 6).take ((x2.l.getD 3 []).length - 6))⟩ : PPolicy), by rw [hb9]; rfl, hpl9.trans (policyOf_good h1 hb9).symm, ?_⟩
                  exact (PPolicy.join _ (hs.only (D := [ow (x3.cut 1 x3.l.length) G90, ow (x4.cut 1 x4.l.length) G91, ow (x8.cut 1 x8.l.length) G92]) (by repeat (first | exact Sel.nil | (apply Sel.cons; (repeat (first | exact Ext.here | apply Ext.there)))))) trivial (by show WfS _; unfold WfS; first | (simp only [List.length_take, List.length_drop]; omega) | simp)).fresh List.mem_cons_self
              ·
                replace h4 := of_decide_eq_false h4
                refine WC.skipn ?_
                refine WC.seq' ?_
                refine WC.seq ?_
                refine WL.p (by rfl) (Yl.loadAB agg63 (by rfl) hs (by repeat (first | exact List.mem_cons_self | apply List.mem_cons_of_mem)) (by rfl) (by rfl)) ?_
                have hpl9 : PPolicy.lg (⟨true, (x3.cut 1 x3.l.length), (x4.cut 1 x4.l.length), (x8.cut 1 x8.l.length), ([] : Str)⟩ : PPolicy) = polS s := by
                  have e2 : x2.l = splitC 59 s := hx2
                  have g0 : x3.l = splitC 32 ((splitC 59 s).getD 0 []) := by rw [← e2]; exact hx3
                  have g1 : x4.l = splitC 32 ((splitC 59 s).getD 1 []) := by rw [← e2]; exact hx4
                  have g2 : x8.l = splitC 32 ((splitC 59 s).getD 2 []) := by rw [← e2]; exact hx8
                  have c0 : (x3.cut 1 x3.l.length).l = (splitC 32 ((splitC 59 s).getD 0 [])).tail := by rw [Sl.cut_full, g0, List.drop_one]
                  have c1 : (x4.cut 1 x4.l.length).l = (splitC 32 ((splitC 59 s).getD 1 [])).tail := by rw [Sl.cut_full, g1, List.drop_one]
                  have c2 : (x8.cut 1 x8.l.length).l = (splitC 32 ((splitC 59 s).getD 2 [])).tail := by rw [Sl.cut_full, g2, List.drop_one]
                  simp only [PPolicy.lg, polS, polOf, c0, c1, c2, TPolicy.mk.injEq, true_and]
                  rw [← e2]
                  first
                    | (rw [if_neg (show ¬ 3 < x2.l.length from fun h => by omega)]; done)
                    | (rw [if_pos (show 3 < x2.l.length from Int.ofNat_lt.1 (by omega))]; done)
                    | (rw [if_pos (show 3 < x2.l.length from Int.ofNat_lt.1 (by omega))]
                       simp only [nonceS, nonceI]
                       first
                         | (rfl; done)
                         | (rw [if_neg (by omega)]; done)
                         | (rw [if_pos (by omega), List.take_of_length_le (by simp)]; done)
                         | (rw [if_pos (by omega)]; done))
                refine WL.callp hs (by rfl) (Yc.func (by rfl) fn193) (c_spec_FormatPolicy (⟨true, (x3.cut 1 x3.l.length), (x4.cut 1 x4.l.length), (x8.cut 1 x8.l.length), ([] : Str)⟩ : PPolicy) _ ⟨trivial, (Sl.Ok.cut (hs.okow (x := x3) (F := F3) (by repeat (first | exact List.mem_cons_self | apply List.mem_cons_of_mem))) (by rw [hx3]; exact List.length_pos_iff.2 (splitC_ne _ _)) (by exact Nat.le_refl _)), (Sl.Ok.cut (hs.okow (x := x4) (F := F4) (by repeat (first | exact List.mem_cons_self | apply List.mem_cons_of_mem))) (by rw [hx4]; exact List.length_pos_iff.2 (splitC_ne _ _)) (by exact Nat.le_refl _)), (Sl.Ok.cut (hs.okow (x := x8) (F := F8) (by repeat (first | exact List.mem_cons_self | apply List.mem_cons_of_mem))) (by rw [hx8]; exact List.length_pos_iff.2 (splitC_ne _ _)) (by exact Nat.le_refl _)), (show WfS [] from Nat.zero_le _)⟩ (by rw [hpl9]; have := polS_size (s := s) (by rw [← show x2.l = splitC 59 s from hx2]; omega); omega)) ?_
                clear hs; intro w hs
                refine WL.p (by rfl) (Yl.move (by rfl)) ?_
                refine WL.p (by rfl) (Yl.nes (by rfl) (by rfl)) ?_
                refine WL.next ?_
                refine WC.condS (by rfl) (fun h5 => ?_) (fun h5 => ?_)
                ·
                  replace h5 := not_eq_true h5
                  replace h5 := of_decide_eq_false h5
                  refine WC.seq ?_
                  refine WL.p (by rfl) (Yl.build bt63 (by rfl) (by repeat (first | exact Fill.nil | (apply Fill.cons; rfl; rfl; rfl; repeat (first | (apply SetAt.here; repeat (first | exact Over.nil | apply Over.cons)) | apply SetAt.there))))) ?_
                  refine WL.s (Yr.storeB hs (by rfl) (by rfl) (by rfl) (by repeat (first | exact Repl.here | apply Repl.there)) (by repeat (first | (apply SetAt.here; repeat (first | exact Over.nil | apply Over.cons)) | apply SetAt.there)) (by rfl) (by exact szf63)) ?_
                  clear hs; rintro _ w hs
                  refine WL.p (by rfl) (Yl.assign (by rfl)) ?_
                  refine WL.next ?_
                  refine WC.ret ?_
                  refine At.thenret ?_
                  refine fin2c rfl agg63 (by rfl) (by rfl) hs (by repeat (first | exact List.mem_cons_self | apply List.mem_cons_of_mem)) (by rfl) ?_
                  refine Ret.mk hs ?_
                  rw [hpl9] at h5
                  have hb9 : policyIs s = false := policyIs_bad h1 h5
                  exact ⟨⟨false, ⟨[], none, 0⟩, ⟨[], none, 0⟩, ⟨[], none, 0⟩, []⟩, by rw [hb9]; rfl, (policyOf_no (.inr hb9)).symm, ⟨⟨[], PPolicy.zown _, .nil, fun b h => by cases h⟩⟩⟩
                ·
                  replace h5 := not_eq_false h5
                  replace h5 := of_decide_eq_true h5
                  refine WC.skipn ?_
                  refine WC.seq ?_
                  refine WL.p (by rfl) (Yl.loadAB agg63 (by rfl) hs (by repeat (first | exact List.mem_cons_self | apply List.mem_cons_of_mem)) (by rfl) (by rfl)) ?_
                  refine WL.s (Yr.storeB hs (by rfl) (by rfl) (by rfl) (by repeat (first | exact Repl.here | apply Repl.there)) (by repeat (first | (apply SetAt.here; repeat (first | exact Over.nil | apply Over.cons)) | apply SetAt.there)) (by rfl) (by exact szf63)) ?_
                  clear hs; rintro _ w hs
                  refine WL.p (by rfl) (Yl.assign (by rfl)) ?_
                  refine WL.next ?_
                  refine WC.ret ?_
                  refine fin2c rfl agg63 (by rfl) (by rfl) hs (by repeat (first | exact List.mem_cons_self | apply List.mem_cons_of_mem)) (by rfl) ?_
                  refine Ret.mk hs ?_
                  rw [hpl9] at h5
                  have hq9 : x2.l = splitC 59 s := hx2
                  have h49 : 3 ≤ (splitC 59 s).length := by rw [← hq9]; omega
                  have hb9 : policyIs s = true := policyIs_good h5 h49
                  obtain ⟨G90, hs⟩ := Sat.cutow (lo := 1) (hi := x3.l.length) (hs.sel (D := [ow x3 F3]) (by repeat (first | exact Sel.nil | (apply Sel.cons; (repeat (first | exact Ext.here | apply Ext.there)))))) (by rw [hx3]; exact List.length_pos_iff.2 (splitC_ne _ _)) (Nat.le_refl _)
                  obtain ⟨G91, hs⟩ := Sat.cutow (lo := 1) (hi := x4.l.length) (hs.sel (D := [ow x4 F4]) (by repeat (first | exact Sel.nil | (apply Sel.cons; (repeat (first | exact Ext.here | apply Ext.there)))))) (by rw [hx4]; exact List.length_pos_iff.2 (splitC_ne _ _)) (Nat.le_refl _)
                  obtain ⟨G92, hs⟩ := Sat.cutow (lo := 1) (hi := x8.l.length) (hs.sel (D := [ow x8 F8]) (by repeat (first | exact Sel.nil | (apply Sel.cons; (repeat (first | exact Ext.here | apply Ext.there)))))) (by rw [hx8]; exact List.length_pos_iff.2 (splitC_ne _ _)) (Nat.le_refl _)
                  refine ⟨(⟨true, (x3.cut 1 x3.l.length), (x4.cut 1 x4.l.length), (x8.cut 1 x8.l.length), ([] : Str)⟩ : PPolicy), by rw [hb9]; rfl, hpl9.trans (policyOf_good h1 hb9).symm, ?_⟩
                  exact (PPolicy.join _ (hs.only (D := [ow (x3.cut 1 x3.l.length) G90, ow (x4.cut 1 x4.l.length) G91, ow (x8.cut 1 x8.l.length) G92]) (by repeat (first | exact Sel.nil | (apply Sel.cons; (repeat (first | exact Ext.here | apply Ext.there)))))) trivial (by show WfS _; unfold WfS; first | (simp only [List.length_take, List.length_drop]; omega) | simp)).fresh List.mem_cons_self
            ·
              replace h3 := of_decide_eq_false h3
              refine WL.skip (d := 34) (by rfl) (by rfl) (by rfl) (by rfl) ?_
              refine WL.skip (d := 34) (by rfl) (by rfl) (by rfl) (by rfl) ?_
              refine WL.skip (d := 34) (by rfl) (by rfl) (by rfl) (by rfl) ?_
              refine WL.skip (d := 34) (by rfl) (by rfl) (by rfl) (by rfl) ?_
              refine WL.skip (d := 34) (by rfl) (by rfl) (by rfl) (by rfl) ?_
              refine WL.p (by rfl) (Yl.pickF (by rfl) (by rfl)) ?_
              refine WL.next ?_
              refine WC.condF (by rfl) ?_
              refine WC.skipn ?_
              refine WC.seq' ?_
              refine WC.seq ?_
              refine WL.p (by rfl) (Yl.loadAB agg63 (by rfl) hs (by repeat (first | exact List.mem_cons_self | apply List.mem_cons_of_mem)) (by rfl) (by rfl)) ?_
              have hpl9 : PPolicy.lg (⟨true, (x3.cut 1 x3.l.length), (x4.cut 1 x4.l.length), (x8.cut 1 x8.l.length), ([] : Str)⟩ : PPolicy) = polS s := by
                have e2 : x2.l = splitC 59 s := hx2
                have g0 : x3.l = splitC 32 ((splitC 59 s).getD 0 []) := by rw [← e2]; exact hx3
                have g1 : x4.l = splitC 32 ((splitC 59 s).getD 1 []) := by rw [← e2]; exact hx4
                have g2 : x8.l = splitC 32 ((splitC 59 s).getD 2 []) := by rw [← e2]; exact hx8
                have c0 : (x3.cut 1 x3.l.length).l = (splitC 32 ((splitC 59 s).getD 0 [])).tail := by rw [Sl.cut_full, g0, List.drop_one]
                have c1 : (x4.cut 1 x4.l.length).l = (splitC 32 ((splitC 59 s).getD 1 [])).tail := by rw [Sl.cut_full, g1, List.drop_one]
                have c2 : (x8.cut 1 x8.l.length).l = (splitC 32 ((splitC 59 s).getD 2 [])).tail := by rw [Sl.cut_full, g2, List.drop_one]
                simp only [PPolicy.lg, polS, polOf, c0, c1, c2, TPolicy.mk.injEq, true_and]
                rw [← e2]
                first
                  | (rw [if_neg (show ¬ 3 < x2.l.length from fun h => by omega)]; done)
                  | (rw [if_pos (show 3 < x2.l.length from Int.ofNat_lt.1 (by omega))]; done)
                  | (rw [if_pos (show 3 < x2.l.length from Int.ofNat_lt.1 (by omega))]
                     simp only [nonceS, nonceI]
                     first
                       | (rfl; done)
                       | (rw [if_neg (by omega)]; done)
                       | (rw [if_pos (by omega), List.take_of_length_le (by simp)]; done)
                       | (rw [if_pos (by omega)]; done))
              refine WL.callp hs (by rfl) (Yc.func (by rfl) fn193) (c_spec_FormatPolicy (⟨true, (x3.cut 1 x3.l.length), (x4.cut 1 x4.l.length), (x8.cut 1 x8.l.length), ([] : Str)⟩ : PPolicy) _ ⟨trivial, (Sl.Ok.cut (hs.okow (x := x3) (F := F3) (by repeat (first | exact List.mem_cons_self | apply List.mem_cons_of_mem))) (by rw [hx3]; exact List.length_pos_iff.2 (splitC_ne _ _)) (by exact Nat.le_refl _)), (Sl.Ok.cut (hs.okow (x := x4) (F := F4) (by repeat (first | exact List.mem_cons_self | apply List.mem_cons_of_mem))) (by rw [hx4]; exact List.length_pos_iff.2 (splitC_ne _ _)) (by exact Nat.le_refl _)), (Sl.Ok.cut (hs.okow (x := x8) (F := F8) (by repeat (first | exact List.mem_cons_self | apply List.mem_cons_of_mem))) (by rw [hx8]; exact List.length_pos_iff.2 (splitC_ne _ _)) (by exact Nat.le_refl _)), (show WfS [] from Nat.zero_le _)⟩ (by rw [hpl9]; have := polS_size (s := s) (by rw [← show x2.l = splitC 59 s from hx2]; omega); omega)) ?_
              clear hs; intro w hs
              refine WL.p (by rfl) (Yl.move (by rfl)) ?_
              refine WL.p (by rfl) (Yl.nes (by rfl) (by rfl)) ?_
              refine WL.next ?_
              refine WC.condS (by rfl) (fun h4 => ?_) (fun h4 => ?_)
              ·
                replace h4 := not_eq_true h4
                replace h4 := of_decide_eq_false h4
                refine WC.seq ?_
                refine WL.p (by rfl) (Yl.build bt63 (by rfl) (by repeat (first | exact Fill.nil | (apply Fill.cons; rfl; rfl; rfl; repeat (first | (apply SetAt.here; repeat (first | exact Over.nil | apply Over.cons)) | apply SetAt.there))))) ?_
                refine WL.s (Yr.storeB hs (by rfl) (by rfl) (by rfl) (by repeat (first | exact Repl.here | apply Repl.there)) (by repeat (first | (apply SetAt.here; repeat (first | exact Over.nil | apply Over.cons)) | apply SetAt.there)) (by rfl) (by exact szf63)) ?_
                clear hs; rintro _ w hs
                refine WL.p (by rfl) (Yl.assign (by rfl)) ?_
                refine WL.next ?_
                refine WC.ret ?_
                refine At.thenret ?_
                refine fin2c rfl agg63 (by rfl) (by rfl) hs (by repeat (first | exact List.mem_cons_self | apply List.mem_cons_of_mem)) (by rfl) ?_
                refine Ret.mk hs ?_
                rw [hpl9] at h4
                have hb9 : policyIs s = false := policyIs_bad h1 h4
                exact ⟨⟨false, ⟨[], none, 0⟩, ⟨[], none, 0⟩, ⟨[], none, 0⟩, []⟩, by rw [hb9]; rfl, (policyOf_no (.inr hb9)).symm, ⟨⟨[], PPolicy.zown _, .nil, fun b h => by cases h⟩⟩⟩
              ·
                replace h4 := not_eq_false h4
                replace h4 := of_decide_eq_true h4
                refine WC.skipn ?_
                refine WC.seq ?_
                refine WL.p (by rfl) (Yl.loadAB agg63 (by rfl) hs (by repeat (first | exact List.mem_cons_self | apply List.mem_cons_of_mem)) (by rfl) (by rfl)) ?_
                refine WL.s (Yr.storeB hs (by rfl) (by rfl) (by rfl) (by repeat (first | exact Repl.here | apply Repl.there)) (by repeat (first | (apply SetAt.here; repeat (first | exact Over.nil | apply Over.cons)) | apply SetAt.there)) (by rfl) (by exact szf63)) ?_
                clear hs; rintro _ w hs
                refine WL.p (by rfl) (Yl.assign (by rfl)) ?_
                refine WL.next ?_
                refine WC.ret ?_
                refine fin2c rfl agg63 (by rfl) (by rfl) hs (by repeat (first | exact List.mem_cons_self | apply List.mem_cons_of_mem)) (by rfl) ?_
                refine Ret.mk hs ?_
                rw [hpl9] at h4
                have hq9 : x2.l = splitC 59 s := hx2
                have h49 : 3 ≤ (splitC 59 s).length := by rw [← hq9]; omega
                have hb9 : policyIs s = true := policyIs_good h4 h49
                obtain ⟨G90, hs⟩ := Sat.cutow (lo := 1) (hi := x3.l.length) (hs.sel (D := [ow x3 F3]) (by repeat (first | exact Sel.nil | (apply Sel.cons; (repeat (first | exact Ext.here | apply Ext.there)))))) (by rw [hx3]; exact List.length_pos_iff.2 (splitC_ne _ _)) (Nat.le_refl _)
                obtain ⟨G91, hs⟩ := Sat.cutow (lo := 1) (hi := x4.l.length) (hs.sel (D := [ow x4 F4]) (by repeat (first | exact Sel.nil | (apply Sel.cons; (repeat (first | exact Ext.here | apply Ext.there)))))) (by rw [hx4]; exact List.length_pos_iff.2 (splitC_ne _ _)) (Nat.le_refl _)
                obtain ⟨G92, hs⟩ := Sat.cutow (lo := 1) (hi := x8.l.length) (hs.sel (D := [ow x8 F8]) (by repeat (first | exact Sel.nil | (apply Sel.cons; (repeat (first | exact Ext.here | apply Ext.there)))))) (by rw [hx8]; exact List.length_pos_iff.2 (splitC_ne _ _)) (Nat.le_refl _)
                refine ⟨(⟨true, (x3.cut 1 x3.l.length), (x4.cut 1 x4.l.length), (x8.cut 1 x8.l.length), ([] : Str)⟩ : PPolicy), by rw [hb9]; rfl, hpl9.trans (policyOf_good h1 hb9).symm, ?_⟩
                exact (PPolicy.join _ (hs.only (D := [ow (x3.cut 1 x3.l.length) G90, ow (x4.cut 1 x4.l.length) G91, ow (x8.cut 1 x8.l.length) G92]) (by repeat (first | exact Sel.nil | (apply Sel.cons; (repeat (first | exact Ext.here | apply Ext.there)))))) trivial (by show WfS _; unfold WfS; first | (simp only [List.length_take, List.length_drop]; omega) | simp)).fresh List.mem_cons_self
        ·
          refine WI.r (i := 16) (by rfl) (by rfl) (Yr.alloc hs zt63) (by rintro _ w ⟨b9, rfl, hb, hs⟩; exact hs.only (by repeat (first | exact Sel.nil | (apply Sel.cons; (repeat (first | exact Ext.here | apply Ext.there)))))) ?_
          clear hs; rintro _ w ⟨b9, rfl, hb, hs⟩; clear hb
          refine WA.call2 (i := 8) hs (fun _ hs => hs.only (by repeat (first | exact Sel.nil | (apply Sel.cons; (repeat (first | exact Ext.here | apply Ext.there)))))) (by kernel_rfl) (by rfl) (by rfl) (Yc.func (by rfl) fn192) (c_spec_l5Split _ 32 _ (by first | (have := getD_len (s := s) (i := 0); rw [← show x2.l = splitC 59 s from hx2] at this; omega) | (have := getD_len (s := s) (i := 1); rw [← show x2.l = splitC 59 s from hx2] at this; omega) | (have := getD_len (s := s) (i := 2); rw [← show x2.l = splitC 59 s from hx2] at this; omega) | (have := getD_len (s := s) (i := 3); rw [← show x2.l = splitC 59 s from hx2] at this; omega))) ?_
          have hs0 := hs; clear hs; intro v w hb hR hs; clear hs
          obtain ⟨x10, rfl, hx10, hf10⟩ := hR
          obtain ⟨F10, hs⟩ := hf10.sat hs0 hb; clear hs0 hf10
          have hle10 := Sl.Ok.le (hs.okow (x := x10) (F := F10) (by repeat (first | exact List.mem_cons_self | apply List.mem_cons_of_mem)))
          refine WA.p (i := 9) (by rfl) (by kernel_rfl) (by kernel_rfl) (by kernel_rfl) (by rfl) (hs.only (by repeat (first | exact Sel.nil | (apply Sel.cons; (repeat (first | exact Ext.here | apply Ext.there)))))) (fun w hs => Yl.slice_sl (s := x10) (l := 1) (h := x10.l.length) slt53 (by rfl) hle10 (by exact ⟨_, by rfl⟩) (by exact rfl) (by rw [hx10]; exact List.length_pos_iff.2 (splitC_ne _ _)) (by exact Nat.le_refl _)) ?_
          refine WA.call2 (i := 13) hs (fun _ hs => hs.only (by repeat (first | exact Sel.nil | (apply Sel.cons; (repeat (first | exact Ext.here | apply Ext.there)))))) (by kernel_rfl) (by rfl) (by rfl) (Yc.func (by rfl) fn192) (c_spec_l5Split _ 32 _ (by first | (have := getD_len (s := s) (i := 0); rw [← show x2.l = splitC 59 s from hx2] at this; omega) | (have := getD_len (s := s) (i := 1); rw [← show x2.l = splitC 59 s from hx2] at this; omega) | (have := getD_len (s := s) (i := 2); rw [← show x2.l = splitC 59 s from hx2] at this; omega) | (have := getD_len (s := s) (i := 3); rw [← show x2.l = splitC 59 s from hx2] at this; omega))) ?_
          have hs0 := hs; clear hs; intro v w hb hR hs; clear hs
          obtain ⟨x11, rfl, hx11, hf11⟩ := hR
          obtain ⟨F11, hs⟩ := hf11.sat hs0 hb; clear hs0 hf11
          have hle11 := Sl.Ok.le (hs.okow (x := x11) (F := F11) (by repeat (first | exact List.mem_cons_self | apply List.mem_cons_of_mem)))
          refine WA.r (i := 14) (by kernel_rfl) (by rfl) (by rfl) (Yl.yr (Yl.slice_sl (s := x11) (l := 1) (h := x11.l.length) slt53 (by rfl) hle11 (by exact ⟨_, by rfl⟩) (by exact rfl) (by rw [hx11]; exact List.length_pos_iff.2 (splitC_ne _ _)) (by exact Nat.le_refl _))) (by rintro _ _ ⟨rfl, rfl⟩; exact hs.only (by repeat (first | exact Sel.nil | (apply Sel.cons; (repeat (first | exact Ext.here | apply Ext.there)))))) ?_
          rintro _ _ ⟨rfl, rfl⟩
          refine WA.p (i := 15) (by rfl) (by kernel_rfl) (by kernel_rfl) (by kernel_rfl) (by rfl) (hs.only (by repeat (first | exact Sel.nil | (apply Sel.cons; (repeat (first | exact Ext.here | apply Ext.there)))))) (fun w hs => Yl.build bt63 (by rfl) (by repeat (first | exact Fill.nil | (apply Fill.cons; rfl; rfl; rfl; repeat (first | (apply SetAt.here; repeat (first | exact Over.nil | apply Over.cons)) | apply SetAt.there))))) ?_
          refine WA.s (i := 17) (by kernel_rfl) (by rfl) (Yr.storeB hs (by rfl) (by rfl) (by rfl) (by repeat (first | exact Repl.here | apply Repl.there)) (by repeat (first | (apply SetAt.here; repeat (first | exact Over.nil | apply Over.cons)) | apply SetAt.there)) (by rfl) (by exact szf63)) (by rintro _ w hs; exact hs.only (by repeat (first | exact Sel.nil | (apply Sel.cons; (repeat (first | exact Ext.here | apply Ext.there)))))) ?_
          clear hs; rintro _ w hs
          refine WA.donen (by kernel_rfl) ?_
          refine WC.seq' ?_
          refine WC.seq ?_
          refine WL.p (by rfl) (Yl.move (by rfl)) ?_
          refine WL.p (by rfl) (Yl.len_sl slu53 (by rfl)) ?_
          refine WL.p (by rfl) (Yl.gtr (by rfl) (by rfl)) ?_
          refine WL.p (by rfl) (Yl.move (by rfl)) ?_
          refine WL.split (d := 34) (by rfl) (fun h3 => ?_) (fun h3 => ?_)
          ·
            replace h3 := of_decide_eq_true h3
            refine WL.run (d := 34) (by rfl) (by rfl) ?_
            refine WL.p (by rfl) (Yl.move (by rfl)) ?_
            refine WL.run (d := 34) (by rfl) (by rfl) ?_
            refine WL.p (by rfl) (Yl.indexAddr (k := 3) slt53 (by rfl) (by rfl) (hs.okow (x := x2) (F := F2) (by repeat (first | exact List.mem_cons_self | apply List.mem_cons_of_mem))) (by rfl) ((getD_some (i := 3) (z := ([] : Str)) (by omega)))) ?_
            refine WL.run (d := 34) (by rfl) (by rfl) ?_
            refine WL.p (by rfl) (Yl.loadC0 sca9 (by rfl) (Sl.Ok.at_ (hs.okow (x := x2) (F := F2) (by repeat (first | exact List.mem_cons_self | apply List.mem_cons_of_mem))) ((getD_some (i := 3) (z := ([] : Str)) (by omega)))).2 (by rfl)) ?_
            refine WL.run (d := 34) (by rfl) (by rfl) ?_
            refine WL.p (by rfl) (Yl.len_str str9 (by rfl)) ?_
            refine WL.run (d := 34) (by rfl) (by rfl) ?_
            refine WL.p (by rfl) (Yl.gtr (by rfl) (by rfl)) ?_
            refine WL.p (by rfl) (Yl.pickT (by rfl) (by rfl)) ?_
            refine WL.next ?_
            refine WC.condS (by rfl) (fun h4 => ?_) (fun h4 => ?_)
            ·
              replace h4 := of_decide_eq_true h4
              refine WC.region ?_
              refine WL.p (by rfl) (Yl.move (by rfl)) ?_
              refine WL.p (by rfl) (Yl.indexAddr (k := 3) slt53 (by rfl) (by rfl) (hs.okow (x := x2) (F := F2) (by repeat (first | exact List.mem_cons_self | apply List.mem_cons_of_mem))) (by rfl) ((getD_some (i := 3) (z := ([] : Str)) (by omega)))) ?_
              refine WL.p (by rfl) (Yl.loadC0 sca9 (by rfl) (Sl.Ok.at_ (hs.okow (x := x2) (F := F2) (by repeat (first | exact List.mem_cons_self | apply List.mem_cons_of_mem))) ((getD_some (i := 3) (z := ([] : Str)) (by omega)))).2 (by rfl)) ?_
              refine WL.p (by rfl) (Yl.slice_str (l := 6) str9 (by rfl) (by exact ⟨_, by rfl⟩) (by exact rfl) (by omega) (by omega)) ?_
              refine WL.p (by rfl) (Yl.fieldAddr fa63_4 (by rfl)) ?_
              refine WL.s (Yr.storeB hs (by rfl) (by rfl) (by rfl) (by repeat (first | exact Repl.here | apply Repl.there)) (by repeat (first | (apply SetAt.here; repeat (first | exact Over.nil | apply Over.cons)) | apply SetAt.there)) (by rfl) (by exact szf9)) ?_
              clear hs; rintro _ w hs
              refine WL.nil ?_
              refine At.then_ ?_
              refine WC.seq' ?_
              refine WC.seq ?_
              refine WL.p (by rfl) (Yl.loadAB agg63 (by rfl) hs (by repeat (first | exact List.mem_cons_self | apply List.mem_cons_of_mem)) (by rfl) (by rfl)) ?_
              have hpl9 : PPolicy.lg (⟨true, (x3.cut 1 x3.l.length), (x10.cut 1 x10.l.length), (x11.cut 1 x11.l.length), (((x2.l.getD 3 []).drop 6).take ((x2.l.getD 3 []).length - 6))⟩ : PPolicy) = polS s := by
                have e2 : x2.l = splitC 59 s := hx2
                have g0 : x3.l = splitC 32 ((splitC 59 s).getD 0 []) := by rw [← e2]; exact hx3
                have g1 : x10.l = splitC 32 ((splitC 59 s).getD 1 []) := by rw [← e2]; exact hx10
                have g2 : x11.l = splitC 32 ((splitC 59 s).getD 2 []) := by rw [← e2]; exact hx11
                have c0 : (x3.cut 1 x3.l.length).l = (splitC 32 ((splitC 59 s).getD 0 [])).tail := by rw [Sl.cut_full, g0, List.drop_one]
                have c1 : (x10.cut 1 x10.l.length).l = (splitC 32 ((splitC 59 s).getD 1 [])).tail := by rw [Sl.cut_full, g1, List.drop_one]
                have c2 : (x11.cut 1 x11.l.length).l = (splitC 32 ((splitC 59 s).getD 2 [])).tail := by rw [Sl.cut_full, g2, List.drop_one]
                simp only [PPolicy.lg, polS, polOf, c0, c1, c2, TPolicy.mk.injEq, true_and]
                rw [← e2]
                first
                  | (rw [if_neg (show ¬ 3 < x2.l.length from fun h => by omega)]; done)
                  | (rw [if_pos (show 3 < x2.l.length from Int.ofNat_lt.1 (by omega))]; done)
                  | (rw [if_pos (show 3 < x2.l.length from Int.ofNat_lt.1 (by omega))]
                     simp only [nonceS, nonceI]
                     first
                       | (rfl; done)
                       | (rw [if_neg (by omega)]; done)
                       | (rw [if_pos (by omega), List.take_of_length_le (by simp)]; done)
                       | (rw [if_pos (by omega)]; done))
              refine WL.callp hs (by rfl) (Yc.func (by rfl) fn193) (c_spec_FormatPolicy (⟨true, (x3.cut 1 x3.l.length), (x10.cut 1 x10.l.length), (x11.cut 1 x11.l.length), (((x2.l.getD 3 []).drop 6).take ((x2.l.getD 3 []).length - 6))⟩ : PPolicy) _ ⟨trivial, (Sl.Ok.cut (hs.okow (x := x3) (F := F3) (by repeat (first | exact List.mem_cons_self | apply List.mem_cons_of_mem))) (by rw [hx3]; exact List.length_pos_iff.2 (splitC_ne _ _)) (by exact Nat.le_refl _)), (Sl.Ok.cut (hs.okow (x := x10) (F := F10) (by repeat (first | exact List.mem_cons_self | apply List.mem_cons_of_mem))) (by rw [hx10]; exact List.length_pos_iff.2 (splitC_ne _ _)) (by exact Nat.le_refl _)), (Sl.Ok.cut (hs.okow (x := x11) (F := F11) (by repeat (first | exact List.mem_cons_self | apply List.mem_cons_of_mem))) (by rw [hx11]; exact List.length_pos_iff.2 (splitC_ne _ _)) (by exact Nat.le_refl _)), (by show WfS _; unfold WfS; simp only [List.length_take, List.length_drop]; omega)⟩ (by rw [hpl9]; have := polS_size (s := s) (by rw [← show x2.l = splitC 59 s from hx2]; omega); omega)) ?_
              clear hs; intro w hs
              refine WL.p (by rfl) (Yl.move (by rfl)) ?_
              refine WL.p (by rfl) (Yl.nes (by rfl) (by rfl)) ?_
              refine WL.next ?_
              refine WC.condS (by rfl) (fun h5 => ?_) (fun h5 => ?_)
              ·
                replace h5 := not_eq_true h5
                replace h5 := of_decide_eq_false h5
                refine WC.seq ?_
                refine WL.p (by rfl) (Yl.build bt63 (by rfl) (by repeat (first | exact Fill.nil | (apply Fill.cons; rfl; rfl; rfl; repeat (first | (apply SetAt.here; repeat (first | exact Over.nil | apply Over.cons)) | apply SetAt.there))))) ?_
                refine WL.s (Yr.storeB hs (by rfl) (by rfl) (by rfl) (by repeat (first | exact Repl.here | apply Repl.there)) (by repeat (first | (apply SetAt.here; repeat (first | exact Over.nil | apply Over.cons)) | apply SetAt.there)) (by rfl) (by exact szf63)) ?_
                clear hs; rintro _ w hs
                refine WL.p (by rfl) (Yl.assign (by rfl)) ?_
                refine WL.next ?_
                refine WC.ret ?_
                refine At.thenret ?_
                refine fin2c rfl agg63 (by rfl) (by rfl) hs (by repeat (first | exact List.mem_cons_self | apply List.mem_cons_of_mem)) (by rfl) ?_
                refine Ret.mk hs ?_
                rw [hpl9] at h5
                have hb9 : policyIs s = false := policyIs_bad h1 h5
                exact ⟨⟨false, ⟨[], none, 0⟩, ⟨[], none, 0⟩, ⟨[], none, 0⟩, []⟩, by rw [hb9]; rfl, (policyOf_no (.inr hb9)).symm, ⟨⟨[], PPolicy.zown _, .nil, fun b h => by cases h⟩⟩⟩
              ·
                replace h5 := not_eq_false h5
                replace h5 := of_decide_eq_true h5
                refine WC.skipn ?_
                refine WC.seq ?_
                refine WL.p (by rfl) (Yl.loadAB agg63 (by rfl) hs (by repeat (first | exact List.mem_cons_self | apply List.mem_cons_of_mem)) (by rfl) (by rfl)) ?_
                refine WL.s (Yr.storeB hs (by rfl) (by rfl) (by rfl) (by repeat (first | exact Repl.here | apply Repl.there)) (by repeat (first | (apply SetAt.here; repeat (first | exact Over.nil | apply Over.cons)) | apply SetAt.there)) (by rfl) (by exact szf63)) ?_
                clear hs; rintro _ w hs
                refine WL.p (by rfl) (Yl.assign (by rfl)) ?_
                refine WL.next ?_
                refine WC.ret ?_
                refine fin2c rfl agg63 (by rfl) (by rfl) hs (by repeat (first | exact List.mem_cons_self | apply List.mem_cons_of_mem)) (by rfl) ?_
                refine Ret.mk hs ?_
                rw [hpl9] at h5
                have hq9 : x2.l = splitC 59 s := hx2
                have h49 : 3 ≤ (splitC 59 s).length := by rw [← hq9]; omega
                have hb9 : policyIs s = true := policyIs_good h5 h49
                obtain ⟨G90, hs⟩ := Sat.cutow (lo := 1) (hi := x3.l.length) (hs.sel (D := [ow x3 F3]) (by repeat (first | exact Sel.nil | (apply Sel.cons; (repeat (first | exact Ext.here | apply Ext.there)))))) (by rw [hx3]; exact List.length_pos_iff.2 (splitC_ne _ _)) (Nat.le_refl _)
                obtain ⟨G91, hs⟩ := Sat.cutow (lo := 1) (hi := x10.l.length) (hs.sel (D := [ow x10 F10]) (by repeat (first | exact Sel.nil | (apply Sel.cons; (repeat (first | exact Ext.here | apply Ext.there)))))) (by rw [hx10]; exact List.length_pos_iff.2 (splitC_ne _ _)) (Nat.le_refl _)
                obtain ⟨G92, hs⟩ := Sat.cutow (lo := 1) (hi := x11.l.length) (hs.sel (D := [ow x11 F11]) (by repeat (first | exact Sel.nil | (apply Sel.cons; (repeat (first | exact Ext.here | apply Ext.there)))))) (by rw [hx11]; exact List.length_pos_iff.2 (splitC_ne _ _)) (Nat.le_refl _)
                refine ⟨(⟨true, (x3.cut 1 x3.l.length), (x10.cut 1 x10.l.length), (x11.cut 1 x11.l.length), (((x2.l.getD 3 []).drop 6).take ((x2.l.getD 3 []).length - 6))⟩ : PPolicy), by rw [hb9]; rfl, hpl9.trans (policyOf_good h1 hb9).symm, ?_⟩
                exact (PPolicy.join _ (hs.only (D := [ow (x3.cut 1 x3.l.length) G90, ow (x10.cut 1 x10.l.length) G91, ow (x11.cut 1 x11.l.length) G92]) (by repeat (first | exact Sel.nil | (apply Sel.cons; (repeat (first | exact Ext.here | apply Ext.there)))))) trivial (by show WfS _; unfold WfS; first | (simp only [List.length_take, List.length_drop]; omega) | simp)).fresh List.mem_cons_self
            ·
              replace h4 := of_decide_eq_false h4
              refine WC.skipn ?_
              refine WC.seq' ?_
              refine WC.seq ?_
              refine WL.p (by rfl) (Yl.loadAB agg63 (by rfl) hs (by repeat (first | exact List.mem_cons_self | apply List.mem_cons_of_mem)) (by rfl) (by rfl)) ?_
              have hpl9 : PPolicy.lg (⟨true, (x3.cut 1 x3.l.length), (x10.cut 1 x10.l.length), (x11.cut 1 x11.l.length), ([] : Str)⟩ : PPolicy) = polS s := by
                have e2 : x2.l = splitC 59 s := hx2
                have g0 : x3.l = splitC 32 ((splitC 59 s).getD 0 []) := by rw [← e2]; exact hx3
                have g1 : x10.l = splitC 32 ((splitC 59 s).getD 1 []) := by rw [← e2]; exact hx10
                have g2 : x11.l = splitC 32 ((splitC 59 s).getD 2 []) := by rw [← e2]; exact hx11
                have c0 : (x3.cut 1 x3.l.length).l = (splitC 32 ((splitC 59 s).getD 0 [])).tail := by rw [Sl.cut_full, g0, List.drop_one]
                have c1 : (x10.cut 1 x10.l.length).l = (splitC 32 ((splitC 59 s).getD 1 [])).tail := by rw [Sl.cut_full, g1, List.drop_one]
                have c2 : (x11.cut 1 x11.l.length).l = (splitC 32 ((splitC 59 s).getD 2 [])).tail := by rw [Sl.cut_full, g2, List.drop_one]
                simp only [PPolicy.lg, polS, polOf, c0, c1, c2, TPolicy.mk.injEq, true_and]
                rw [← e2]
                first
                  | (rw [if_neg (show ¬ 3 < x2.l.length from fun h => by omega)]; done)
                  | (rw [if_pos (show 3 < x2.l.length from Int.ofNat_lt.1 (by omega))]; done)
                  | (rw [if_pos (show 3 < x2.l.length from Int.ofNat_lt.1 (by omega))]
                     simp only [nonceS, nonceI]
                     first
                       | (rfl; done)
                       | (rw [if_neg (by omega)]; done)
                       | (rw [if_pos (by omega), List.take_of_length_le (by simp)]; done)
                       | (rw [if_pos (by omega)]; done))
              refine WL.callp hs (by rfl) (Yc.func (by rfl) fn193) (c_spec_FormatPolicy (⟨true, (x3.cut 1 x3.l.length), (x10.cut 1 x10.l.length), (x11.cut 1 x11.l.length), ([] : Str)⟩ : PPolicy) _ ⟨trivial, (Sl.Ok.cut (hs.okow (x := x3) (F := F3) (by repeat (first | exact List.mem_cons_self | apply List.mem_cons_of_mem))) (by rw [hx3]; exact List.length_pos_iff.2 (splitC_ne _ _)) (by exact Nat.le_refl _)), (Sl.Ok.cut (hs.okow (x := x10) (F := F10) (by repeat (first | exact List.mem_cons_self | apply List.mem_cons_of_mem))) (by rw [hx10]; exact List.length_pos_iff.2 (splitC_ne _ _)) (by exact Nat.le_refl _)), (Sl.Ok.cut (hs.okow (x := x11) (F := F11) (by repeat (first | exact List.mem_cons_self | apply List.mem_cons_of_mem))) (by rw [hx11]; exact List.length_pos_iff.2 (splitC_ne _ _)) (by exact Nat.le_refl _)), (show WfS [] from Nat.zero_le _)⟩ (by rw [hpl9]; have := polS_size (s := s) (by rw [← show x2.l = splitC 59 s from hx2]; omega); omega)) ?_
              clear hs; intro w hs
              refine WL.p (by rfl) (Yl.move (by rfl)) ?_
              refine WL.p (by rfl) (Yl.nes (by rfl) (by rfl)) ?_
              refine WL.next ?_
              refine WC.condS (by rfl) (fun h5 => ?_) (fun h5 => ?_)
              ·
                replace h5 := not_eq_true h5
                replace h5 := of_decide_eq_false h5
                refine WC.seq ?_
                refine WL.p (by rfl) (Yl.build bt63 (by rfl) (by repeat (first | exact Fill.nil | (apply Fill.cons; rfl; rfl; rfl; repeat (first | (apply SetAt.here; repeat (first | exact Over.nil | apply Over.cons)) | apply SetAt.there))))) ?_
                refine WL.s (Yr.storeB hs (by rfl) (by rfl) (by rfl) (by repeat (first | exact Repl.here | apply Repl.there)) (by repeat (first | (apply SetAt.here; repeat (first | exact Over.nil | apply Over.cons)) | apply SetAt.there)) (by rfl) (by exact szf63)) ?_
                clear hs; rintro _ w hs
                refine WL.p (by rfl) (Yl.assign (by rfl)) ?_
                refine WL.next ?_
                refine WC.ret ?_
                refine At.thenret ?_
                refine fin2c rfl agg63 (by rfl) (by rfl) hs (by repeat (first | exact List.mem_cons_self | apply List.mem_cons_of_mem)) (by rfl) ?_
                refine Ret.mk hs ?_
                rw [hpl9] at h5
                have hb9 : policyIs s = false := policyIs_bad h1 h5
                exact ⟨⟨false, ⟨[], none, 0⟩, ⟨[], none, 0⟩, ⟨[], none, 0⟩, []⟩, by rw [hb9]; rfl, (policyOf_no (.inr hb9)).symm, ⟨⟨[], PPolicy.zown _, .nil, fun b h => by cases h⟩⟩⟩
              ·
                replace h5 := not_eq_false h5
                replace h5 := of_decide_eq_true h5
                refine WC.skipn ?_
                refine WC.seq ?_
                refine WL.p (by rfl) (Yl.loadAB agg63 (by rfl) hs (by repeat (first | exact List.mem_cons_self | apply List.mem_cons_of_mem)) (by rfl) (by rfl)) ?_
                refine WL.s (Yr.storeB hs (by rfl) (by rfl) (by rfl) (by repeat (first | exact Repl.here | apply Repl.there)) (by repeat (first | (apply SetAt.here; repeat (first | exact Over.nil | apply Over.cons)) | apply SetAt.there)) (by rfl) (by exact szf63)) ?_
                clear hs; rintro _ w hs
                refine WL.p (by rfl) (Yl.assign (by rfl)) ?_
                refine WL.next ?_
                refine WC.ret ?_
                refine fin2c rfl agg63 (by rfl) (by rfl) hs (by repeat (first | exact List.mem_cons_self | apply List.mem_cons_of_mem)) (by rfl) ?_
                refine Ret.mk hs ?_
                rw [hpl9] at h5
                have hq9 : x2.l = splitC 59 s := hx2
                have h49 : 3 ≤ (splitC 59 s).length := by rw [← hq9]; omega
                have hb9 : policyIs s = true := policyIs_good h5 h49
                obtain ⟨G90, hs⟩ := Sat.cutow (lo := 1) (hi := x3.l.length) (hs.sel (D := [ow x3 F3]) (by repeat (first | exact Sel.nil | (apply Sel.cons; (repeat (first | exact Ext.here | apply Ext.there)))))) (by rw [hx3]; exact List.length_pos_iff.2 (splitC_ne _ _)) (Nat.le_refl _)
                obtain ⟨G91, hs⟩ := Sat.cutow (lo := 1) (hi := x10.l.length) (hs.sel (D := [ow x10 F10]) (by repeat (first | exact Sel.nil | (apply Sel.cons; (repeat (first | exact Ext.here | apply Ext.there)))))) (by rw [hx10]; exact List.length_pos_iff.2 (splitC_ne _ _)) (Nat.le_refl _)
                obtain ⟨G92, hs⟩ := Sat.cutow (lo := 1) (hi := x11.l.length) (hs.sel (D := [ow x11 F11]) (by repeat (first | exact Sel.nil | (apply Sel.cons; (repeat (first | exact Ext.here | apply Ext.there)))))) (by rw [hx11]; exact List.length_pos_iff.2 (splitC_ne _ _)) (Nat.le_refl _)
                refine ⟨(⟨true, (x3.cut 1 x3.l.length), (x10.cut 1 x10.l.length), (x11.cut 1 x11.l.length), ([] : Str)⟩ : PPolicy), by rw [hb9]; rfl, hpl9.trans (policyOf_good h1 hb9).symm, ?_⟩
                exact (PPolicy.join _ (hs.only (D := [ow (x3.cut 1 x3.l.length) G90, ow (x10.cut 1 x10.l.length) G91, ow (x11.cut 1 x11.l.length) G92]) (by repeat (first | exact Sel.nil | (apply Sel.cons; (repeat (first | exact Ext.here | apply Ext.there)))))) trivial (by show WfS _; unfold WfS; first | (simp only [List.length_take, List.length_drop]; omega) | simp)).fresh List.mem_cons_self
          ·
            replace h3 := of_decide_eq_false h3
            refine WL.skip (d := 34) (by rfl) (by rfl) (by rfl) (by rfl) ?_
            refine WL.skip (d := 34) (by rfl) (by rfl) (by rfl) (by rfl) ?_
            refine WL.skip (d := 34) (by rfl) (by rfl) (by rfl) (by rfl) ?_
            refine WL.skip (d := 34) (by rfl) (by rfl) (by rfl) (by rfl) ?_
            refine WL.skip (d := 34) (by rfl) (by rfl) (by rfl) (by rfl) ?_
            refine WL.p (by rfl) (Yl.pickF (by rfl) (by rfl)) ?_
            refine WL.next ?_
            refine WC.condF (by rfl) ?_
            refine WC.skipn ?_
            refine WC.seq' ?_
            refine WC.seq ?_
            refine WL.p (by rfl) (Yl.loadAB agg63 (by rfl) hs (by repeat (first | exact List.mem_cons_self | apply List.mem_cons_of_mem)) (by rfl) (by rfl)) ?_
            have hpl9 : PPolicy.lg (⟨true, (x3.cut 1 x3.l.length), (x10.cut 1 x10.l.length), (x11.cut 1 x11.l.length), ([] : Str)⟩ : PPolicy) = polS s := by
              have e2 : x2.l = splitC 59 s := hx2
              have g0 : x3.l = splitC 32 ((splitC 59 s).getD 0 []) := by rw [← e2]; exact hx3
              have g1 : x10.l = splitC 32 ((splitC 59 s).getD 1 []) := by rw [← e2]; exact hx10
              have g2 : x11.l = splitC 32 ((splitC 59 s).getD 2 []) := by rw [← e2]; exact hx11
              have c0 : (x3.cut 1 x3.l.length).l = (splitC 32 ((splitC 59 s).getD 0 [])).tail := by rw [Sl.cut_full, g0, List.drop_one]
              have c1 : (x10.cut 1 x10.l.length).l = (splitC 32 ((splitC 59 s).getD 1 [])).tail := by rw [Sl.cut_full, g1, List.drop_one]
              have c2 : (x11.cut 1 x11.l.length).l = (splitC 32 ((splitC 59 s).getD 2 [])).tail := by rw [Sl.cut_full, g2, List.drop_one]
              simp only [PPolicy.lg, polS, polOf, c0, c1, c2, TPolicy.mk.injEq, true_and]
              rw [← e2]
              first
                | (rw [if_neg (show ¬ 3 < x2.l.length from fun h => by omega)]; done)
                | (rw [if_pos (show 3 < x2.l.length from Int.ofNat_lt.1 (by omega))]; done)
                | (rw [if_pos (show 3 < x2.l.length from Int.ofNat_lt.1 (by omega))]
                   simp only [nonceS, nonceI]
                   first
                     | (rfl; done)
                     | (rw [if_neg (by omega)]; done)
                     | (rw [if_pos (by omega), List.take_of_length_le (by simp)]; done)
                     | (rw [if_pos (by omega)]; done))
            refine WL.callp hs (by rfl) (Yc.func (by rfl) fn193) (c_spec_FormatPolicy (⟨true, (x3.cut 1 x3.l.length), (x10.cut 1 x10.l.length), (x11.cut 1 x11.l.length), ([] : Str)⟩ : PPolicy) _ ⟨trivial, (Sl.Ok.cut (hs.okow (x := x3) (F := F3) (by repeat (first | exact List.mem_cons_self | apply List.mem_cons_of_mem))) (by rw [hx3]; exact List.length_pos_iff.2 (splitC_ne _ _)) (by exact Nat.le_refl _)), (Sl.Ok.cut (hs.okow (x := x10) (F := F10) (by repeat (first | exact List.mem_cons_self | apply List.mem_cons_of_mem))) (by rw [hx10]; exact List.length_pos_iff.2 (splitC_ne _ _)) (by exact Nat.le_refl _)), (Sl.Ok.cut (hs.okow (x := x11) (F := F11) (by repeat (first | exact List.mem_cons_self | apply List.mem_cons_of_mem))) (by rw [hx11]; exact List.length_pos_iff.2 (splitC_ne _ _)) (by exact Nat.le_refl _)), (show WfS [] from Nat.zero_le _)⟩ (by rw [hpl9]; have := polS_size (s := s) (by rw [← show x2.l = splitC 59 s from hx2]; omega); omega)) ?_
            clear hs; intro w hs
            refine WL.p (by rfl) (Yl.move (by rfl)) ?_
            refine WL.p (by rfl) (Yl.nes (by rfl) (by rfl)) ?_
            refine WL.next ?_
            refine WC.condS (by rfl) (fun h4 => ?_) (fun h4 => ?_)
            ·
              replace h4 := not_eq_true h4
              replace h4 := of_decide_eq_false h4
              refine WC.seq ?_
              refine WL.p (by rfl) (Yl.build bt63 (by rfl) (by repeat (first | exact Fill.nil | (apply Fill.cons; rfl; rfl; rfl; repeat (first | (apply SetAt.here; repeat (first | exact Over.nil | apply Over.cons)) | apply SetAt.there))))) ?_
              refine WL.s (Yr.storeB hs (by rfl) (by rfl) (by rfl) (by repeat (first | exact Repl.here | apply Repl.there)) (by repeat (first | (apply SetAt.here; repeat (first | exact Over.nil | apply Over.cons)) | apply SetAt.there)) (by rfl) (by exact szf63)) ?_
              clear hs; rintro _ w hs
              refine WL.p (by rfl) (Yl.assign (by rfl)) ?_
              refine WL.next ?_
              refine WC.ret ?_
              refine At.thenret ?_
              refine fin2c rfl agg63 (by rfl) (by rfl) hs (by repeat (first | exact List.mem_cons_self | apply List.mem_cons_of_mem)) (by rfl) ?_
              refine Ret.mk hs ?_
              rw [hpl9] at h4
              have hb9 : policyIs s = false := policyIs_bad h1 h4
              exact ⟨⟨false, ⟨[], none, 0⟩, ⟨[], none, 0⟩, ⟨[], none, 0⟩, []⟩, by rw [hb9]; rfl, (policyOf_no (.inr hb9)).symm, ⟨⟨[], PPolicy.zown _, .nil, fun b h => by cases h⟩⟩⟩
            ·
              replace h4 := not_eq_false h4
              replace h4 := of_decide_eq_true h4
              refine WC.skipn ?_
              refine WC.seq ?_
              refine WL.p (by rfl) (Yl.loadAB agg63 (by rfl) hs (by repeat (first | exact List.mem_cons_self | apply List.mem_cons_of_mem)) (by rfl) (by rfl)) ?_
              refine WL.s (Yr.storeB hs (by rfl) (by rfl) (by rfl) (by repeat (first | exact Repl.here | apply Repl.there)) (by repeat (first | (apply SetAt.here; repeat (first | exact Over.nil | apply Over.cons)) | apply SetAt.there)) (by rfl) (by exact szf63)) ?_
              clear hs; rintro _ w hs
              refine WL.p (by rfl) (Yl.assign (by rfl)) ?_
              refine WL.next ?_
              refine WC.ret ?_
              refine fin2c rfl agg63 (by rfl) (by rfl) hs (by repeat (first | exact List.mem_cons_self | apply List.mem_cons_of_mem)) (by rfl) ?_
              refine Ret.mk hs ?_
              rw [hpl9] at h4
              have hq9 : x2.l = splitC 59 s := hx2
              have h49 : 3 ≤ (splitC 59 s).length := by rw [← hq9]; omega
              have hb9 : policyIs s = true := policyIs_good h4 h49
              obtain ⟨G90, hs⟩ := Sat.cutow (lo := 1) (hi := x3.l.length) (hs.sel (D := [ow x3 F3]) (by repeat (first | exact Sel.nil | (apply Sel.cons; (repeat (first | exact Ext.here | apply Ext.there)))))) (by rw [hx3]; exact List.length_pos_iff.2 (splitC_ne _ _)) (Nat.le_refl _)
              obtain ⟨G91, hs⟩ := Sat.cutow (lo := 1) (hi := x10.l.length) (hs.sel (D := [ow x10 F10]) (by repeat (first | exact Sel.nil | (apply Sel.cons; (repeat (first | exact Ext.here | apply Ext.there)))))) (by rw [hx10]; exact List.length_pos_iff.2 (splitC_ne _ _)) (Nat.le_refl _)
              obtain ⟨G92, hs⟩ := Sat.cutow (lo := 1) (hi := x11.l.length) (hs.sel (D := [ow x11 F11]) (by repeat (first | exact Sel.nil | (apply Sel.cons; (repeat (first | exact Ext.here | apply Ext.there)))))) (by rw [hx11]; exact List.length_pos_iff.2 (splitC_ne _ _)) (Nat.le_refl _)
              refine ⟨(⟨true, (x3.cut 1 x3.l.length), (x10.cut 1 x10.l.length), (x11.cut 1 x11.l.length), ([] : Str)⟩ : PPolicy), by rw [hb9]; rfl, hpl9.trans (policyOf_good h1 hb9).symm, ?_⟩
              exact (PPolicy.join _ (hs.only (D := [ow (x3.cut 1 x3.l.length) G90, ow (x10.cut 1 x10.l.length) G91, ow (x11.cut 1 x11.l.length) G92]) (by repeat (first | exact Sel.nil | (apply Sel.cons; (repeat (first | exact Ext.here | apply Ext.there)))))) trivial (by show WfS _; unfold WfS; first | (simp only [List.length_take, List.length_drop]; omega) | simp)).fresh List.mem_cons_self
      ·
        refine WI.r (i := 16) (by rfl) (by rfl) (Yr.alloc hs zt63) (by rintro _ w ⟨b12, rfl, hb, hs⟩; exact hs.only (by repeat (first | exact Sel.nil | (apply Sel.cons; (repeat (first | exact Ext.here | apply Ext.there)))))) ?_
        clear hs; rintro _ w ⟨b12, rfl, hb, hs⟩; clear hb
        refine WA.call2 (i := 3) hs (fun _ hs => hs.only (by repeat (first | exact Sel.nil | (apply Sel.cons; (repeat (first | exact Ext.here | apply Ext.there)))))) (by kernel_rfl) (by rfl) (by rfl) (Yc.func (by rfl) fn192) (c_spec_l5Split _ 32 _ (by first | (have := getD_len (s := s) (i := 0); rw [← show x2.l = splitC 59 s from hx2] at this; omega) | (have := getD_len (s := s) (i := 1); rw [← show x2.l = splitC 59 s from hx2] at this; omega) | (have := getD_len (s := s) (i := 2); rw [← show x2.l = splitC 59 s from hx2] at this; omega) | (have := getD_len (s := s) (i := 3); rw [← show x2.l = splitC 59 s from hx2] at this; omega))) ?_
        have hs0 := hs; clear hs; intro v w hb hR hs; clear hs
        obtain ⟨x13, rfl, hx13, hf13⟩ := hR
        obtain ⟨F13, hs⟩ := hf13.sat hs0 hb; clear hs0 hf13
        have hle13 := Sl.Ok.le (hs.okow (x := x13) (F := F13) (by repeat (first | exact List.mem_cons_self | apply List.mem_cons_of_mem)))
        refine WA.p (i := 4) (by rfl) (by kernel_rfl) (by kernel_rfl) (by kernel_rfl) (by rfl) (hs.only (by repeat (first | exact Sel.nil | (apply Sel.cons; (repeat (first | exact Ext.here | apply Ext.there)))))) (fun w hs => Yl.slice_sl (s := x13) (l := 1) (h := x13.l.length) slt53 (by rfl) hle13 (by exact ⟨_, by rfl⟩) (by exact rfl) (by rw [hx13]; exact List.length_pos_iff.2 (splitC_ne _ _)) (by exact Nat.le_refl _)) ?_
        refine WA.call2 (i := 8) hs (fun _ hs => hs.only (by repeat (first | exact Sel.nil | (apply Sel.cons; (repeat (first | exact Ext.here | apply Ext.there)))))) (by kernel_rfl) (by rfl) (by rfl) (Yc.func (by rfl) fn192) (c_spec_l5Split _ 32 _ (by first | (have := getD_len (s := s) (i := 0); rw [← show x2.l = splitC 59 s from hx2] at this; omega) | (have := getD_len (s := s) (i := 1); rw [← show x2.l = splitC 59 s from hx2] at this; omega) | (have := getD_len (s := s) (i := 2); rw [← show x2.l = splitC 59 s from hx2] at this; omega) | (have := getD_len (s := s) (i := 3); rw [← show x2.l = splitC 59 s from hx2] at this; omega))) ?_
        have hs0 := hs; clear hs; intro v w hb hR hs; clear hs
        obtain ⟨x14, rfl, hx14, hf14⟩ := hR
        obtain ⟨F14, hs⟩ := hf14.sat hs0 hb; clear hs0 hf14
        have hle14 := Sl.Ok.le (hs.okow (x := x14) (F := F14) (by repeat (first | exact List.mem_cons_self | apply List.mem_cons_of_mem)))
        refine WA.p (i := 9) (by rfl) (by kernel_rfl) (by kernel_rfl) (by kernel_rfl) (by rfl) (hs.only (by repeat (first | exact Sel.nil | (apply Sel.cons; (repeat (first | exact Ext.here | apply Ext.there)))))) (fun w hs => Yl.slice_sl (s := x14) (l := 1) (h := x14.l.length) slt53 (by rfl) hle14 (by exact ⟨_, by rfl⟩) (by exact rfl) (by rw [hx14]; exact List.length_pos_iff.2 (splitC_ne _ _)) (by exact Nat.le_refl _)) ?_
        refine WA.call2 (i := 13) hs (fun _ hs => hs.only (by repeat (first | exact Sel.nil | (apply Sel.cons; (repeat (first | exact Ext.here | apply Ext.there)))))) (by kernel_rfl) (by rfl) (by rfl) (Yc.func (by rfl) fn192) (c_spec_l5Split _ 32 _ (by first | (have := getD_len (s := s) (i := 0); rw [← show x2.l = splitC 59 s from hx2] at this; omega) | (have := getD_len (s := s) (i := 1); rw [← show x2.l = splitC 59 s from hx2] at this; omega) | (have := getD_len (s := s) (i := 2); rw [← show x2.l = splitC 59 s from hx2] at this; omega) | (have := getD_len (s := s) (i := 3); rw [← show x2.l = splitC 59 s from hx2] at this; omega))) ?_
        have hs0 := hs; clear hs; intro v w hb hR hs; clear hs
        obtain ⟨x15, rfl, hx15, hf15⟩ := hR
        obtain ⟨F15, hs⟩ := hf15.sat hs0 hb; clear hs0 hf15
        have hle15 := Sl.Ok.le (hs.okow (x := x15) (F := F15) (by repeat (first | exact List.mem_cons_self | apply List.mem_cons_of_mem)))
        refine WA.r (i := 14) (by kernel_rfl) (by rfl) (by rfl) (Yl.yr (Yl.slice_sl (s := x15) (l := 1) (h := x15.l.length) slt53 (by rfl) hle15 (by exact ⟨_, by rfl⟩) (by exact rfl) (by rw [hx15]; exact List.length_pos_iff.2 (splitC_ne _ _)) (by exact Nat.le_refl _))) (by rintro _ _ ⟨rfl, rfl⟩; exact hs.only (by repeat (first | exact Sel.nil | (apply Sel.cons; (repeat (first | exact Ext.here | apply Ext.there)))))) ?_
        rintro _ _ ⟨rfl, rfl⟩
        refine WA.p (i := 15) (by rfl) (by kernel_rfl) (by kernel_rfl) (by kernel_rfl) (by rfl) (hs.only (by repeat (first | exact Sel.nil | (apply Sel.cons; (repeat (first | exact Ext.here | apply Ext.there)))))) (fun w hs => Yl.build bt63 (by rfl) (by repeat (first | exact Fill.nil | (apply Fill.cons; rfl; rfl; rfl; repeat (first | (apply SetAt.here; repeat (first | exact Over.nil | apply Over.cons)) | apply SetAt.there))))) ?_
        refine WA.s (i := 17) (by kernel_rfl) (by rfl) (Yr.storeB hs (by rfl) (by rfl) (by rfl) (by repeat (first | exact Repl.here | apply Repl.there)) (by repeat (first | (apply SetAt.here; repeat (first | exact Over.nil | apply Over.cons)) | apply SetAt.there)) (by rfl) (by exact szf63)) (by rintro _ w hs; exact hs.only (by repeat (first | exact Sel.nil | (apply Sel.cons; (repeat (first | exact Ext.here | apply Ext.there)))))) ?_
        clear hs; rintro _ w hs
        refine WA.donen (by kernel_rfl) ?_
        refine WC.seq' ?_
        refine WC.seq ?_
        refine WL.p (by rfl) (Yl.move (by rfl)) ?_
        refine WL.p (by rfl) (Yl.len_sl slu53 (by rfl)) ?_
        refine WL.p (by rfl) (Yl.gtr (by rfl) (by rfl)) ?_
        refine WL.p (by rfl) (Yl.move (by rfl)) ?_
        refine WL.split (d := 34) (by rfl) (fun h3 => ?_) (fun h3 => ?_)
        ·
          replace h3 := of_decide_eq_true h3
          refine WL.run (d := 34) (by rfl) (by rfl) ?_
          refine WL.p (by rfl) (Yl.move (by rfl)) ?_
          refine WL.run (d := 34) (by rfl) (by rfl) ?_
          refine WL.p (by rfl) (Yl.indexAddr (k := 3) slt53 (by rfl) (by rfl) (hs.okow (x := x2) (F := F2) (by repeat (first | exact List.mem_cons_self | apply List.mem_cons_of_mem))) (by rfl) ((getD_some (i := 3) (z := ([] : Str)) (by omega)))) ?_
          refine WL.run (d := 34) (by rfl) (by rfl) ?_
          refine WL.p (by rfl) (Yl.loadC0 sca9 (by rfl) (Sl.Ok.at_ (hs.okow (x := x2) (F := F2) (by repeat (first | exact List.mem_cons_self | apply List.mem_cons_of_mem))) ((getD_some (i := 3) (z := ([] : Str)) (by omega)))).2 (by rfl)) ?_
          refine WL.run (d := 34) (by rfl) (by rfl) ?_
          refine WL.p (by rfl) (Yl.len_str str9 (by rfl)) ?_
          refine WL.run (d := 34) (by rfl) (by rfl) ?_
          refine WL.p (by rfl) (Yl.gtr (by rfl) (by rfl)) ?_
          refine WL.p (by rfl) (Yl.pickT (by rfl) (by rfl)) ?_
          refine WL.next ?_
          refine WC.condS (by rfl) (fun h4 => ?_) (fun h4 => ?_)
          ·
            replace h4 := of_decide_eq_true h4
            refine WC.region ?_
            refine WL.p (by rfl) (Yl.move (by rfl)) ?_
            refine WL.p (by rfl) (Yl.indexAddr (k := 3) slt53 (by rfl) (by rfl) (hs.okow (x := x2) (F := F2) (by repeat (first | exact List.mem_cons_self | apply List.mem_cons_of_mem))) (by rfl) ((getD_some (i := 3) (z := ([] : Str)) (by omega)))) ?_
            refine WL.p (by rfl) (Yl.loadC0 sca9 (by rfl) (Sl.Ok.at_ (hs.okow (x := x2) (F := F2) (by repeat (first | exact List.mem_cons_self | apply List.mem_cons_of_mem))) ((getD_some (i := 3) (z := ([] : Str)) (by omega)))).2 (by rfl)) ?_
            refine WL.p (by rfl) (Yl.slice_str (l := 6) str9 (by rfl) (by exact ⟨_, by rfl⟩) (by exact rfl) (by omega) (by omega)) ?_
            refine WL.p (by rfl) (Yl.fieldAddr fa63_4 (by rfl)) ?_
            refine WL.s (Yr.storeB hs (by rfl) (by rfl) (by rfl) (by repeat (first | exact Repl.here | apply Repl.there)) (by repeat (first | (apply SetAt.here; repeat (first | exact Over.nil | apply Over.cons)) | apply SetAt.there)) (by rfl) (by exact szf9)) ?_
            clear hs; rintro _ w hs
            refine WL.nil ?_
            refine At.then_ ?_
            refine WC.seq' ?_
            refine WC.seq ?_
            refine WL.p (by rfl) (Yl.loadAB agg63 (by rfl) hs (by repeat (first | exact List.mem_cons_self | apply List.mem_cons_of_mem)) (by rfl) (by rfl)) ?_
            have hpl9 : PPolicy.lg (⟨true, (x13.cut 1 x13.l.length), (x14.cut 1 x14.l.length), (x15.cut 1 x15.l.length), (((x2.l.getD 3 []).drop 6).take ((x2.l.getD 3 []).length - 6))⟩ : PPolicy) = polS s := by
              have e2 : x2.l = splitC 59 s := hx2
              have g0 : x13.l = splitC 32 ((splitC 59 s).getD 0 []) := by rw [← e2]; exact hx13
              have g1 : x14.l = splitC 32 ((splitC 59 s).getD 1 []) := by rw [← e2]; exact hx14
              have g2 : x15.l = splitC 32 ((splitC 59 s).getD 2 []) := by rw [← e2]; exact hx15
              have c0 : (x13.cut 1 x13.l.length).l = (splitC 32 ((splitC 59 s).getD 0 [])).tail := by rw [Sl.cut_full, g0, List.drop_one]
              have c1 : (x14.cut 1 x14.l.length).l = (splitC 32 ((splitC 59 s).getD 1 [])).tail := by rw [Sl.cut_full, g1, List.drop_one]
              have c2 : (x15.cut 1 x15.l.length).l = (splitC 32 ((splitC 59 s).getD 2 [])).tail := by rw [Sl.cut_full, g2, List.drop_one]
              simp only [PPolicy.lg, polS, polOf, c0, c1, c2, TPolicy.mk.injEq, true_and]
              rw [← e2]
              first
                | (rw [if_neg (show ¬ 3 < x2.l.length from fun h => by omega)]; done)
                | (rw [if_pos (show 3 < x2.l.length from Int.ofNat_lt.1 (by omega))]; done)
                | (rw [if_pos (show 3 < x2.l.length from Int.ofNat_lt.1 (by omega))]
                   simp only [nonceS, nonceI]
                   first
                     | (rfl; done)
                     | (rw [if_neg (by omega)]; done)
                     | (rw [if_pos (by omega), List.take_of_length_le (by simp)]; done)
                     | (rw [if_pos (by omega)]; done))
            refine WL.callp hs (by rfl) (Yc.func (by rfl) fn193) (c_spec_FormatPolicy (⟨true, (x13.cut 1 x13.l.length), (x14.cut 1 x14.l.length), (x15.cut 1 x15.l.length), (((x2.l.getD 3 []).drop 6).take ((x2.l.getD 3 []).length - 6))⟩ : PPolicy) _ ⟨trivial, (Sl.Ok.cut (hs.okow (x := x13) (F := F13) (by repeat (first | exact List.mem_cons_self | apply List.mem_cons_of_mem))) (by rw [hx13]; exact List.length_pos_iff.2 (splitC_ne _ _)) (by exact Nat.le_refl _)), (Sl.Ok.cut (hs.okow (x := x14) (F := F14) (by repeat (first | exact List.mem_cons_self | apply List.mem_cons_of_mem))) (by rw [hx14]; exact List.length_pos_iff.2 (splitC_ne _ _)) (by exact Nat.le_refl _)), (Sl.Ok.cut (hs.okow (x := x15) (F := F15) (by repeat (first | exact List.mem_cons_self | apply List.mem_cons_of_mem))) (by rw [hx15]; exact List.length_pos_iff.2 (splitC_ne _ _)) (by exact Nat.le_refl _)), (by show WfS _; unfold WfS; simp only [List.length_take, List.length_drop]; omega)⟩ (by rw [hpl9]; have := polS_size (s := s) (by rw [← show x2.l = splitC 59 s from hx2]; omega); omega)) ?_
            clear hs; intro w hs
            refine WL.p (by rfl) (Yl.move (by rfl)) ?_
            refine WL.p (by rfl) (Yl.nes (by rfl) (by rfl)) ?_
            refine WL.next ?_
            refine WC.condS (by rfl) (fun h5 => ?_) (fun h5 => ?_)
            ·
              replace h5 := not_eq_true h5
              replace h5 := of_decide_eq_false h5
              refine WC.seq ?_
              refine WL.p (by rfl) (Yl.build bt63 (by rfl) (by repeat (first | exact Fill.nil | (apply Fill.cons; rfl; rfl; rfl; repeat (first | (apply SetAt.here; repeat (first | exact Over.nil | apply Over.cons)) | apply SetAt.there))))) ?_
              refine WL.s (Yr.storeB hs (by rfl) (by rfl) (by rfl) (by repeat (first | exact Repl.here | apply Repl.there)) (by repeat (first | (apply SetAt.here; repeat (first | exact Over.nil | apply Over.cons)) | apply SetAt.there)) (by rfl) (by exact szf63)) ?_
              clear hs; rintro _ w hs
              refine WL.p (by rfl) (Yl.assign (by rfl)) ?_
              refine WL.next ?_
              refine WC.ret ?_
              refine At.thenret ?_
              refine fin2c rfl agg63 (by rfl) (by rfl) hs (by repeat (first | exact List.mem_cons_self | apply List.mem_cons_of_mem)) (by rfl) ?_
              refine Ret.mk hs ?_
              rw [hpl9] at h5
              have hb9 : policyIs s = false := policyIs_bad h1 h5
              exact ⟨⟨false, ⟨[], none, 0⟩, ⟨[], none, 0⟩, ⟨[], none, 0⟩, []⟩, by rw [hb9]; rfl, (policyOf_no (.inr hb9)).symm, ⟨⟨[], PPolicy.zown _, .nil, fun b h => by cases h⟩⟩⟩
            ·
              replace h5 := not_eq_false h5
              replace h5 := of_decide_eq_true h5
              refine WC.skipn ?_
              refine WC.seq ?_
              refine WL.p (by rfl) (Yl.loadAB agg63 (by rfl) hs (by repeat (first | exact List.mem_cons_self | apply List.mem_cons_of_mem)) (by rfl) (by rfl)) ?_
              refine WL.s (Yr.storeB hs (by rfl) (by rfl) (by rfl) (by repeat (first | exact Repl.here | apply Repl.there)) (by repeat (first | (apply SetAt.here; repeat (first | exact Over.nil | apply Over.cons)) | apply SetAt.there)) (by rfl) (by exact szf63)) ?_
              clear hs; rintro _ w hs
              refine WL.p (by rfl) (Yl.assign (by rfl)) ?_
              refine WL.next ?_
              refine WC.ret ?_
              refine fin2c rfl agg63 (by rfl) (by rfl) hs (by repeat (first | exact List.mem_cons_self | apply List.mem_cons_of_mem)) (by rfl) ?_
              refine Ret.mk hs ?_
              rw [hpl9] at h5
              have hq9 : x2.l = splitC 59 s := hx2
              have h49 : 3 ≤ (splitC 59 s).length := by rw [← hq9]; omega
              have hb9 : policyIs s = true := policyIs_good h5 h49
              obtain ⟨G90, hs⟩ := Sat.cutow (lo := 1) (hi := x13.l.length) (hs.sel (D := [ow x13 F13]) (by repeat (first | exact Sel.nil | (apply Sel.cons; (repeat (first | exact Ext.here | apply Ext.there)))))) (by rw [hx13]; exact List.length_pos_iff.2 (splitC_ne _ _)) (Nat.le_refl _)
              obtain ⟨G91, hs⟩ := Sat.cutow (lo := 1) (hi := x14.l.length) (hs.sel (D := [ow x14 F14]) (by repeat (first | exact Sel.nil | (apply Sel.cons; (repeat (first | exact Ext.here | apply Ext.there)))))) (by rw [hx14]; exact List.length_pos_iff.2 (splitC_ne _ _)) (Nat.le_refl _)
              obtain ⟨G92, hs⟩ := Sat.cutow (lo := 1) (hi := x15.l.length) (hs.sel (D := [ow x15 F15]) (by repeat (first | exact Sel.nil | (apply Sel.cons; (repeat (first | exact Ext.here | apply Ext.there)))))) (by rw [hx15]; exact List.length_pos_iff.2 (splitC_ne _ _)) (Nat.le_refl _)
              refine ⟨(⟨true, (x13.cut 1 x13.l.length), (x14.cut 1 x14.l.length), (x15.cut 1 x15.l.length), (((x2.l.getD 3 []).drop 6).take ((x2.l.getD 3 []).length - 6))⟩ : PPolicy), by rw [hb9]; rfl, hpl9.trans (policyOf_good h1 hb9).symm, ?_⟩
              exact (PPolicy.join _ (hs.only (D := [ow (x13.cut 1 x13.l.length) G90, ow (x14.cut 1 x14.l.length) G91, ow (x15.cut 1 x15.l.length) G92]) (by repeat (first | exact Sel.nil | (apply Sel.cons; (repeat (first | exact Ext.here | apply Ext.there)))))) trivial (by show WfS _; unfold WfS; first | (simp only [List.length_take, List.length_drop]; omega) | simp)).fresh List.mem_cons_self
          ·
            replace h4 := of_decide_eq_false h4
            refine WC.skipn ?_
            refine WC.seq' ?_
            refine WC.seq ?_
            refine WL.p (by rfl) (Yl.loadAB agg63 (by rfl) hs (by repeat (first | exact List.mem_cons_self | apply List.mem_cons_of_mem)) (by rfl) (by rfl)) ?_
            have hpl9 : PPolicy.lg (⟨true, (x13.cut 1 x13.l.length), (x14.cut 1 x14.l.length), (x15.cut 1 x15.l.length), ([] : Str)⟩ : PPolicy) = polS s := by
              have e2 : x2.l = splitC 59 s := hx2
              have g0 : x13.l = splitC 32 ((splitC 59 s).getD 0 []) := by rw [← e2]; exact hx13
              have g1 : x14.l = splitC 32 ((splitC 59 s).getD 1 []) := by rw [← e2]; exact hx14
              have g2 : x15.l = splitC 32 ((splitC 59 s).getD 2 []) := by rw [← e2]; exact hx15
              have c0 : (x13.cut 1 x13.l.length).l = (splitC 32 ((splitC 59 s).getD 0 [])).tail := by rw [Sl.cut_full, g0, List.drop_one]
              have c1 : (x14.cut 1 x14.l.length).l = (splitC 32 ((splitC 59 s).getD 1 [])).tail := by rw [Sl.cut_full, g1, List.drop_one]
              have c2 : (x15.cut 1 x15.l.length).l = (splitC 32 ((splitC 59 s).getD 2 [])).tail := by rw [Sl.cut_full, g2, List.drop_one]
              simp only [PPolicy.lg, polS, polOf, c0, c1, c2, TPolicy.mk.injEq, true_and]
              rw [← e2]
              first
                | (rw [if_neg (show ¬ 3 < x2.l.length from fun h => by omega)]; done)
                | (rw [if_pos (show 3 < x2.l.length from Int.ofNat_lt.1 (by omega))]; done)
                | (rw [if_pos (show 3 < x2.l.length from Int.ofNat_lt.1 (by omega))]
                   simp only [nonceS, nonceI]
                   first
                     | (rfl; done)
                     | (rw [if_neg (by omega)]; done)
                     | (rw [if_pos (by omega), List.take_of_length_le (by simp)]; done)
                     | (rw [if_pos (by omega)]; done))
            refine WL.callp hs (by rfl) (Yc.func (by rfl) fn193) (c_spec_FormatPolicy (⟨true, (x13.cut 1 x13.l.length), (x14.cut 1 x14.l.length), (x15.cut 1 x15.l.length), ([] : Str)⟩ : PPolicy) _ ⟨trivial, (Sl.Ok.cut (hs.okow (x := x13) (F := F13) (by repeat (first | exact List.mem_cons_self | apply List.mem_cons_of_mem))) (by rw [hx13]; exact List.length_pos_iff.2 (splitC_ne _ _)) (by exact Nat.le_refl _)), (Sl.Ok.cut (hs.okow (x := x14) (F := F14) (by repeat (first | exact List.mem_cons_self | apply List.mem_cons_of_mem))) (by rw [hx14]; exact List.length_pos_iff.2 (splitC_ne _ _)) (by exact Nat.le_refl _)), (Sl.Ok.cut (hs.okow (x := x15) (F := F15) (by repeat (first | exact List.mem_cons_self | apply List.mem_cons_of_mem))) (by rw [hx15]; exact List.length_pos_iff.2 (splitC_ne _ _)) (by exact Nat.le_refl _)), (show WfS [] from Nat.zero_le _)⟩ (by rw [hpl9]; have := polS_size (s := s) (by rw [← show x2.l = splitC 59 s from hx2]; omega); omega)) ?_
            clear hs; intro w hs
            refine WL.p (by rfl) (Yl.move (by rfl)) ?_
            refine WL.p (by rfl) (Yl.nes (by rfl) (by rfl)) ?_
            refine WL.next ?_
            refine WC.condS (by rfl) (fun h5 => ?_) (fun h5 => ?_)
            ·
              replace h5 := not_eq_true h5
              replace h5 := of_decide_eq_false h5
              refine WC.seq ?_
              refine WL.p (by rfl) (Yl.build bt63 (by rfl) (by repeat (first | exact Fill.nil | (apply Fill.cons; rfl; rfl; rfl; repeat (first | (apply SetAt.here; repeat (first | exact Over.nil | apply Over.cons)) | apply SetAt.there))))) ?_
              refine WL.s (Yr.storeB hs (by rfl) (by rfl) (by rfl) (by repeat (first | exact Repl.here | apply Repl.there)) (by repeat (first | (apply SetAt.here; repeat (first | exact Over.nil | apply Over.cons)) | apply SetAt.there)) (by rfl) (by exact szf63)) ?_
              clear hs; rintro _ w hs
              refine WL.p (by rfl) (Yl.assign (by rfl)) ?_
              refine WL.next ?_
              refine WC.ret ?_
              refine At.thenret ?_
              refine fin2c rfl agg63 (by rfl) (by rfl) hs (by repeat (first | exact List.mem_cons_self | apply List.mem_cons_of_mem)) (by rfl) ?_
              refine Ret.mk hs ?_
              rw [hpl9] at h5
              have hb9 : policyIs s = false := policyIs_bad h1 h5
              exact ⟨⟨false, ⟨[], none, 0⟩, ⟨[], none, 0⟩, ⟨[], none, 0⟩, []⟩, by rw [hb9]; rfl, (policyOf_no (.inr hb9)).symm, ⟨⟨[], PPolicy.zown _, .nil, fun b h => by cases h⟩⟩⟩
            ·
              replace h5 := not_eq_false h5
              replace h5 := of_decide_eq_true h5
              refine WC.skipn ?_
              refine WC.seq ?_
              refine WL.p (by rfl) (Yl.loadAB agg63 (by rfl) hs (by repeat (first | exact List.mem_cons_self | apply List.mem_cons_of_mem)) (by rfl) (by rfl)) ?_
              refine WL.s (Yr.storeB hs (by rfl) (by rfl) (by rfl) (by repeat (first | exact Repl.here | apply Repl.there)) (by repeat (first | (apply SetAt.here; repeat (first | exact Over.nil | apply Over.cons)) | apply SetAt.there)) (by rfl) (by exact szf63)) ?_
              clear hs; rintro _ w hs
              refine WL.p (by rfl) (Yl.assign (by rfl)) ?_
              refine WL.next ?_
              refine WC.ret ?_
              refine fin2c rfl agg63 (by rfl) (by rfl) hs (by repeat (first | exact List.mem_cons_self | apply List.mem_cons_of_mem)) (by rfl) ?_
              refine Ret.mk hs ?_
              rw [hpl9] at h5
              have hq9 : x2.l = splitC 59 s := hx2
              have h49 : 3 ≤ (splitC 59 s).length := by rw [← hq9]; omega
              have hb9 : policyIs s = true := policyIs_good h5 h49
              obtain ⟨G90, hs⟩ := Sat.cutow (lo := 1) (hi := x13.l.length) (hs.sel (D := [ow x13 F13]) (by repeat (first | exact Sel.nil | (apply Sel.cons; (repeat (first | exact Ext.here | apply Ext.there)))))) (by rw [hx13]; exact List.length_pos_iff.2 (splitC_ne _ _)) (Nat.le_refl _)
              obtain ⟨G91, hs⟩ := Sat.cutow (lo := 1) (hi := x14.l.length) (hs.sel (D := [ow x14 F14]) (by repeat (first | exact Sel.nil | (apply Sel.cons; (repeat (first | exact Ext.here | apply Ext.there)))))) (by rw [hx14]; exact List.length_pos_iff.2 (splitC_ne _ _)) (Nat.le_refl _)
              obtain ⟨G92, hs⟩ := Sat.cutow (lo := 1) (hi := x15.l.length) (hs.sel (D := [ow x15 F15]) (by repeat (first | exact Sel.nil | (apply Sel.cons; (repeat (first | exact Ext.here | apply Ext.there)))))) (by rw [hx15]; exact List.length_pos_iff.2 (splitC_ne _ _)) (Nat.le_refl _)
              refine ⟨(⟨true, (x13.cut 1 x13.l.length), (x14.cut 1 x14.l.length), (x15.cut 1 x15.l.length), ([] : Str)⟩ : PPolicy), by rw [hb9]; rfl, hpl9.trans (policyOf_good h1 hb9).symm, ?_⟩
              exact (PPolicy.join _ (hs.only (D := [ow (x13.cut 1 x13.l.length) G90, ow (x14.cut 1 x14.l.length) G91, ow (x15.cut 1 x15.l.length) G92]) (by repeat (first | exact Sel.nil | (apply Sel.cons; (repeat (first | exact Ext.here | apply Ext.there)))))) trivial (by show WfS _; unfold WfS; first | (simp only [List.length_take, List.length_drop]; omega) | simp)).fresh List.mem_cons_self
        ·
          replace h3 := of_decide_eq_false h3
          refine WL.skip (d := 34) (by rfl) (by rfl) (by rfl) (by rfl) ?_
          refine WL.skip (d := 34) (by rfl) (by rfl) (by rfl) (by rfl) ?_
          refine WL.skip (d := 34) (by rfl) (by rfl) (by rfl) (by rfl) ?_
          refine WL.skip (d := 34) (by rfl) (by rfl) (by rfl) (by rfl) ?_
          refine WL.skip (d := 34) (by rfl) (by rfl) (by rfl) (by rfl) ?_
          refine WL.p (by rfl) (Yl.pickF (by rfl) (by rfl)) ?_
          refine WL.next ?_
          refine WC.condF (by rfl) ?_
          refine WC.skipn ?_
          refine WC.seq' ?_
          refine WC.seq ?_
          refine WL.p (by rfl) (Yl.loadAB agg63 (by rfl) hs (by repeat (first | exact List.mem_cons_self | apply List.mem_cons_of_mem)) (by rfl) (by rfl)) ?_
          have hpl9 : PPolicy.lg (⟨true, (x13.cut 1 x13.l.length), (x14.cut 1 x14.l.length), (x15.cut 1 x15.l.length), ([] : Str)⟩ : PPolicy) = polS s := by
            have e2 : x2.l = splitC 59 s := hx2
            have g0 : x13.l = splitC 32 ((splitC 59 s).getD 0 []) := by rw [← e2]; exact hx13
            have g1 : x14.l = splitC 32 ((splitC 59 s).getD 1 []) := by rw [← e2]; exact hx14
            have g2 : x15.l = splitC 32 ((splitC 59 s).getD 2 []) := by rw [← e2]; exact hx15
            have c0 : (x13.cut 1 x13.l.length).l = (splitC 32 ((splitC 59 s).getD 0 [])).tail := by rw [Sl.cut_full, g0, List.drop_one]
            have c1 : (x14.cut 1 x14.l.length).l = (splitC 32 ((splitC 59 s).getD 1 [])).tail := by rw [Sl.cut_full, g1, List.drop_one]
            have c2 : (x15.cut 1 x15.l.length).l = (splitC 32 ((splitC 59 s).getD 2 [])).tail := by rw [Sl.cut_full, g2, List.drop_one]
            simp only [PPolicy.lg, polS, polOf, c0, c1, c2, TPolicy.mk.injEq, true_and]
            rw [← e2]
            first
              | (rw [if_neg (show ¬ 3 < x2.l.length from fun h => by omega)]; done)
              | (rw [if_pos (show 3 < x2.l.length from Int.ofNat_lt.1 (by omega))]; done)
              | (rw [if_pos (show 3 < x2.l.length from Int.ofNat_lt.1 (by omega))]
                 simp only [nonceS, nonceI]
                 first
                   | (rfl; done)
                   | (rw [if_neg (by omega)]; done)
                   | (rw [if_pos (by omega), List.take_of_length_le (by simp)]; done)
                   | (rw [if_pos (by omega)]; done))
          refine WL.callp hs (by rfl) (Yc.func (by rfl) fn193) (c_spec_FormatPolicy (⟨true, (x13.cut 1 x13.l.length), (x14.cut 1 x14.l.length), (x15.cut 1 x15.l.length), ([] : Str)⟩ : PPolicy) _ ⟨trivial, (Sl.Ok.cut (hs.okow (x := x13) (F := F13) (by repeat (first | exact List.mem_cons_self | apply List.mem_cons_of_mem))) (by rw [hx13]; exact List.length_pos_iff.2 (splitC_ne _ _)) (by exact Nat.le_refl _)), (Sl.Ok.cut (hs.okow (x := x14) (F := F14) (by repeat (first | exact List.mem_cons_self | apply List.mem_cons_of_mem))) (by rw [hx14]; exact List.length_pos_iff.2 (splitC_ne _ _)) (by exact Nat.le_refl _)), (Sl.Ok.cut (hs.okow (x := x15) (F := F15) (by repeat (first | exact List.mem_cons_self | apply List.mem_cons_of_mem))) (by rw [hx15]; exact List.length_pos_iff.2 (splitC_ne _ _)) (by exact Nat.le_refl _)), (show WfS [] from Nat.zero_le _)⟩ (by rw [hpl9]; have := polS_size (s := s) (by rw [← show x2.l = splitC 59 s from hx2]; omega); omega)) ?_
          clear hs; intro w hs
          refine WL.p (by rfl) (Yl.move (by rfl)) ?_
          refine WL.p (by rfl) (Yl.nes (by rfl) (by rfl)) ?_
          refine WL.next ?_
          refine WC.condS (by rfl) (fun h4 => ?_) (fun h4 => ?_)
          ·
            replace h4 := not_eq_true h4
            replace h4 := of_decide_eq_false h4
            refine WC.seq ?_
            refine WL.p (by rfl) (Yl.build bt63 (by rfl) (by repeat (first | exact Fill.nil | (apply Fill.cons; rfl; rfl; rfl; repeat (first | (apply SetAt.here; repeat (first | exact Over.nil | apply Over.cons)) | apply SetAt.there))))) ?_
            refine WL.s (Yr.storeB hs (by rfl) (by rfl) (by rfl) (by repeat (first | exact Repl.here | apply Repl.there)) (by repeat (first | (apply SetAt.here; repeat (first | exact Over.nil | apply Over.cons)) | apply SetAt.there)) (by rfl) (by exact szf63)) ?_
            clear hs; rintro _ w hs
            refine WL.p (by rfl) (Yl.assign (by rfl)) ?_
            refine WL.next ?_
            refine WC.ret ?_
            refine At.thenret ?_
            refine fin2c rfl agg63 (by rfl) (by rfl) hs (by repeat (first | exact List.mem_cons_self | apply List.mem_cons_of_mem)) (by rfl) ?_
            refine Ret.mk hs ?_
            rw [hpl9] at h4
            have hb9 : policyIs s = false := policyIs_bad h1 h4
            exact ⟨⟨false, ⟨[], none, 0⟩, ⟨[], none, 0⟩, ⟨[], none, 0⟩, []⟩, by rw [hb9]; rfl, (policyOf_no (.inr hb9)).symm, ⟨⟨[], PPolicy.zown _, .nil, fun b h => by cases h⟩⟩⟩
          ·
            replace h4 := not_eq_false h4
            replace h4 := of_decide_eq_true h4
            refine WC.skipn ?_
            refine WC.seq ?_
            refine WL.p (by rfl) (Yl.loadAB agg63 (by rfl) hs (by repeat (first | exact List.mem_cons_self | apply List.mem_cons_of_mem)) (by rfl) (by rfl)) ?_
            refine WL.s (Yr.storeB hs (by rfl) (by rfl) (by rfl) (by repeat (first | exact Repl.here | apply Repl.there)) (by repeat (first | (apply SetAt.here; repeat (first | exact Over.nil | apply Over.cons)) | apply SetAt.there)) (by rfl) (by exact szf63)) ?_
            clear hs; rintro _ w hs
            refine WL.p (by rfl) (Yl.assign (by rfl)) ?_
            refine WL.next ?_
            refine WC.ret ?_
            refine fin2c rfl agg63 (by rfl) (by rfl) hs (by repeat (first | exact List.mem_cons_self | apply List.mem_cons_of_mem)) (by rfl) ?_
            refine Ret.mk hs ?_
            rw [hpl9] at h4
            have hq9 : x2.l = splitC 59 s := hx2
            have h49 : 3 ≤ (splitC 59 s).length := by rw [← hq9]; omega
            have hb9 : policyIs s = true := policyIs_good h4 h49
            obtain ⟨G90, hs⟩ := Sat.cutow (lo := 1) (hi := x13.l.length) (hs.sel (D := [ow x13 F13]) (by repeat (first | exact Sel.nil | (apply Sel.cons; (repeat (first | exact Ext.here | apply Ext.there)))))) (by rw [hx13]; exact List.length_pos_iff.2 (splitC_ne _ _)) (Nat.le_refl _)
            obtain ⟨G91, hs⟩ := Sat.cutow (lo := 1) (hi := x14.l.length) (hs.sel (D := [ow x14 F14]) (by repeat (first | exact Sel.nil | (apply Sel.cons; (repeat (first | exact Ext.here | apply Ext.there)))))) (by rw [hx14]; exact List.length_pos_iff.2 (splitC_ne _ _)) (Nat.le_refl _)
            obtain ⟨G92, hs⟩ := Sat.cutow (lo := 1) (hi := x15.l.length) (hs.sel (D := [ow x15 F15]) (by repeat (first | exact Sel.nil | (apply Sel.cons; (repeat (first | exact Ext.here | apply Ext.there)))))) (by rw [hx15]; exact List.length_pos_iff.2 (splitC_ne _ _)) (Nat.le_refl _)
            refine ⟨(⟨true, (x13.cut 1 x13.l.length), (x14.cut 1 x14.l.length), (x15.cut 1 x15.l.length), ([] : Str)⟩ : PPolicy), by rw [hb9]; rfl, hpl9.trans (policyOf_good h1 hb9).symm, ?_⟩
            exact (PPolicy.join _ (hs.only (D := [ow (x13.cut 1 x13.l.length) G90, ow (x14.cut 1 x14.l.length) G91, ow (x15.cut 1 x15.l.length) G92]) (by repeat (first | exact Sel.nil | (apply Sel.cons; (repeat (first | exact Ext.here | apply Ext.there)))))) trivial (by show WfS _; unfold WfS; first | (simp only [List.length_take, List.length_drop]; omega) | simp)).fresh List.mem_cons_self

theorem c_spec_IsResponse (x : TResponse) (w : World) (h_x : Ph.ok w x) (hb : x.policy.length ≤ 1048576) : Calls Tryz.prog 93 [.agg #[I x.status, I x.kind, S x.body, I x.age, Bo x.shares, S x.policy]].toArray w (RetP w (Bo x.isv)) := by
  refine enterN 33 Tryz.func93 rfl rfl rfl ?_
  have hs := Sat.start w
  refine WC.seq ?_
  refine WL.r (by rfl) (Yr.box hs (by rfl) (by rfl)) ?_
  clear hs; rintro _ w ⟨b1, rfl, hb, hs⟩; clear hb
  refine WL.p (by rfl) (Yl.assign (by rfl)) ?_
  refine WL.next ?_
  refine WC.seq ?_
  refine WL.p (by rfl) (Yl.fieldAddr fa41_5 (by rfl)) ?_
  refine WL.p (by rfl) (Yl.loadB sca9 (by rfl) hs (by repeat (first | exact List.mem_cons_self | apply List.mem_cons_of_mem)) (by rfl)) ?_
  refine WL.call hs (by rfl) (Yc.func (by rfl) fn160) (c_spec_ParsePolicy _ _ (by first | assumption | omega | (simp only [lsz] at *; omega) | (simp only [lsz, strsz, TPolicy.size, TCache.size, TAddr.size, TRequest.size, TEntry.size, TResponse.size, TLine.size] at *; omega) | (simp only [lsz_map, TPage.size, TBuilder.size, TNode.size, TToken.size, TTokenizer.size, TServer.size, TFile.size, TNet.size, TCache.size, TSheet.size, strsz] at *; omega) | (simp only [lsz_map, TPage.size, TBuilder.size, TNode.size, TToken.size, TTokenizer.size, TServer.size, TFile.size, TNet.size, TCache.size, TSheet.size, strsz, lsz] at *; omega))) ?_
  have hs0 := hs; clear hs; intro v w hb hR hs; clear hs
  obtain ⟨x2, rfl, hx2, hf2⟩ := hR
  obtain ⟨F2, hs⟩ := hf2.sat hs0 hb; clear hs0 hf2
  refine WL.p (by rfl) (Yl.move (by rfl)) ?_
  refine WL.p (by rfl) (Yl.extract (by rfl) (by rfl)) ?_
  refine WL.p (by rfl) (Yl.extract (by rfl) (by rfl)) ?_
  refine WL.r (by rfl) (Yr.alloc hs zt63) ?_
  clear hs; rintro _ w ⟨b3, rfl, hb, hs⟩; clear hb
  refine WL.s (Yr.storeB hs (by rfl) (by rfl) (by rfl) (by repeat (first | exact Repl.here | apply Repl.there)) (by repeat (first | (apply SetAt.here; repeat (first | exact Over.nil | apply Over.cons)) | apply SetAt.there)) (by rfl) (by exact szf63)) ?_
  clear hs; rintro _ w hs
  refine WL.p (by rfl) (Yl.assign (by rfl)) ?_
  refine WL.next ?_
  refine WC.seq ?_
  refine WL.p (by rfl) (Yl.fieldAddr fa41_0 (by rfl)) ?_
  refine WL.p (by rfl) (Yl.loadB sca3 (by rfl) hs (by repeat (first | exact List.mem_cons_self | apply List.mem_cons_of_mem)) (by rfl)) ?_
  refine WL.callp hs (by rfl) (Yc.func (by rfl) fn87) (c_spec_l1In _ _ _ _) ?_
  clear hs; intro w hs
  refine WL.p (by rfl) (Yl.move (by rfl)) ?_
  refine WL.split (d := 14) (by rfl) (fun h1 => ?_) (fun h1 => ?_)
  ·
    replace h1 := inR_true.1 h1
    refine WL.run (d := 14) (by rfl) (by rfl) ?_
    refine WL.p (by rfl) (Yl.fieldAddr fa41_1 (by rfl)) ?_
    refine WL.run (d := 14) (by rfl) (by rfl) ?_
    refine WL.p (by rfl) (Yl.loadB sca3 (by rfl) hs (by repeat (first | exact List.mem_cons_self | apply List.mem_cons_of_mem)) (by rfl)) ?_
    refine WL.run (d := 14) (by rfl) (by rfl) ?_
    refine WL.callp hs (by rfl) (Yc.func (by rfl) fn87) (c_spec_l1In _ _ _ _) ?_
    clear hs; intro w hs
    refine WL.p (by rfl) (Yl.pickT (by rfl) (by rfl)) ?_
    refine WL.p (by rfl) (Yl.move (by rfl)) ?_
    refine WL.split (d := 19) (by rfl) (fun h2 => ?_) (fun h2 => ?_)
    ·
      replace h2 := inR_true.1 h2
      refine WL.run (d := 19) (by rfl) (by rfl) ?_
      refine WL.p (by rfl) (Yl.fieldAddr fa41_2 (by rfl)) ?_
      refine WL.run (d := 19) (by rfl) (by rfl) ?_
      refine WL.p (by rfl) (Yl.loadB sca9 (by rfl) hs (by repeat (first | exact List.mem_cons_self | apply List.mem_cons_of_mem)) (by rfl)) ?_
      refine WL.run (d := 19) (by rfl) (by rfl) ?_
      refine WL.p (by rfl) (Yl.len_str str9 (by rfl)) ?_
      refine WL.run (d := 19) (by rfl) (by rfl) ?_
      refine WL.p (by rfl) (Yl.leq (by rfl) (by rfl)) ?_
      refine WL.p (by rfl) (Yl.pickT (by rfl) (by rfl)) ?_
      refine WL.p (by rfl) (Yl.move (by rfl)) ?_
      refine WL.split (d := 25) (by rfl) (fun h3 => ?_) (fun h3 => ?_)
      ·
        replace h3 := of_decide_eq_true h3
        refine WL.run (d := 25) (by rfl) (by rfl) ?_
        refine WL.p (by rfl) (Yl.fieldAddr fa41_3 (by rfl)) ?_
        refine WL.run (d := 25) (by rfl) (by rfl) ?_
        refine WL.p (by rfl) (Yl.loadB sca3 (by rfl) hs (by repeat (first | exact List.mem_cons_self | apply List.mem_cons_of_mem)) (by rfl)) ?_
        refine WL.run (d := 25) (by rfl) (by rfl) ?_
        refine WL.callp hs (by rfl) (Yc.func (by rfl) fn87) (c_spec_l1In _ _ _ _) ?_
        clear hs; intro w hs
        refine WL.p (by rfl) (Yl.pickT (by rfl) (by rfl)) ?_
        refine WL.p (by rfl) (Yl.move (by rfl)) ?_
        refine WL.split (d := 30) (by rfl) (fun h4 => ?_) (fun h4 => ?_)
        ·
          replace h4 := inR_true.1 h4
          refine WL.run (d := 30) (by rfl) (by rfl) ?_
          refine WL.p (by rfl) (Yl.move (by rfl)) ?_
          refine WL.p (by rfl) (Yl.pickT (by rfl) (by rfl)) ?_
          refine WL.p (by rfl) (Yl.assign (by rfl)) ?_
          refine WL.next ?_
          refine WC.ret ?_
          refine fin1' rfl (by rfl) ?_
          refine RetP.mk hs ?_
          clear hs hb h_x
          try simp only [← inR_true] at *
          try simp only [← inR_false] at *
          simp_all [TResponse.isv]
          try (intro hh; omega)
        ·
          replace h4 := inR_false.1 h4
          refine WL.skip (d := 30) (by rfl) (by rfl) (by rfl) (by rfl) ?_
          refine WL.p (by rfl) (Yl.pickF (by rfl) (by rfl)) ?_
          refine WL.p (by rfl) (Yl.assign (by rfl)) ?_
          refine WL.next ?_
          refine WC.ret ?_
          refine fin1' rfl (by rfl) ?_
          refine RetP.mk hs ?_
          clear hs hb h_x
          try simp only [← inR_true] at *
          try simp only [← inR_false] at *
          simp_all [TResponse.isv]
          try (intro hh; omega)
      ·
        replace h3 := of_decide_eq_false h3
        refine WL.skip (d := 25) (by rfl) (by rfl) (by rfl) (by rfl) ?_
        refine WL.skip (d := 25) (by rfl) (by rfl) (by rfl) (by rfl) ?_
        refine WL.skip (d := 25) (by rfl) (by rfl) (by rfl) (by rfl) ?_
        refine WL.p (by rfl) (Yl.pickF (by rfl) (by rfl)) ?_
        refine WL.p (by rfl) (Yl.move (by rfl)) ?_
        refine WL.skip (d := 30) (by rfl) (by rfl) (by rfl) (by rfl) ?_
        refine WL.p (by rfl) (Yl.pickF (by rfl) (by rfl)) ?_
        refine WL.p (by rfl) (Yl.assign (by rfl)) ?_
        refine WL.next ?_
        refine WC.ret ?_
        refine fin1' rfl (by rfl) ?_
        refine RetP.mk hs ?_
        clear hs hb h_x
        try simp only [← inR_true] at *
        try simp only [← inR_false] at *
        simp_all [TResponse.isv]
        try (intro hh; omega)
    ·
      replace h2 := inR_false.1 h2
      refine WL.skip (d := 19) (by rfl) (by rfl) (by rfl) (by rfl) ?_
      refine WL.skip (d := 19) (by rfl) (by rfl) (by rfl) (by rfl) ?_
      refine WL.skip (d := 19) (by rfl) (by rfl) (by rfl) (by rfl) ?_
      refine WL.skip (d := 19) (by rfl) (by rfl) (by rfl) (by rfl) ?_
      refine WL.p (by rfl) (Yl.pickF (by rfl) (by rfl)) ?_
      refine WL.p (by rfl) (Yl.move (by rfl)) ?_
      refine WL.skip (d := 25) (by rfl) (by rfl) (by rfl) (by rfl) ?_
      refine WL.skip (d := 25) (by rfl) (by rfl) (by rfl) (by rfl) ?_
      refine WL.skip (d := 25) (by rfl) (by rfl) (by rfl) (by rfl) ?_
      refine WL.p (by rfl) (Yl.pickF (by rfl) (by rfl)) ?_
      refine WL.p (by rfl) (Yl.move (by rfl)) ?_
      refine WL.skip (d := 30) (by rfl) (by rfl) (by rfl) (by rfl) ?_
      refine WL.p (by rfl) (Yl.pickF (by rfl) (by rfl)) ?_
      refine WL.p (by rfl) (Yl.assign (by rfl)) ?_
      refine WL.next ?_
      refine WC.ret ?_
      refine fin1' rfl (by rfl) ?_
      refine RetP.mk hs ?_
      clear hs hb h_x
      try simp only [← inR_true] at *
      try simp only [← inR_false] at *
      simp_all [TResponse.isv]
      try (intro hh; omega)
  ·
    replace h1 := inR_false.1 h1
    refine WL.skip (d := 14) (by rfl) (by rfl) (by rfl) (by rfl) ?_
    refine WL.skip (d := 14) (by rfl) (by rfl) (by rfl) (by rfl) ?_
    refine WL.skip (d := 14) (by rfl) (by rfl) (by rfl) (by rfl) ?_
    refine WL.p (by rfl) (Yl.pickF (by rfl) (by rfl)) ?_
    refine WL.p (by rfl) (Yl.move (by rfl)) ?_
    refine WL.skip (d := 19) (by rfl) (by rfl) (by rfl) (by rfl) ?_
    refine WL.skip (d := 19) (by rfl) (by rfl) (by rfl) (by rfl) ?_
    refine WL.skip (d := 19) (by rfl) (by rfl) (by rfl) (by rfl) ?_
    refine WL.skip (d := 19) (by rfl) (by rfl) (by rfl) (by rfl) ?_
    refine WL.p (by rfl) (Yl.pickF (by rfl) (by rfl)) ?_
    refine WL.p (by rfl) (Yl.move (by rfl)) ?_
    refine WL.skip (d := 25) (by rfl) (by rfl) (by rfl) (by rfl) ?_
    refine WL.skip (d := 25) (by rfl) (by rfl) (by rfl) (by rfl) ?_
    refine WL.skip (d := 25) (by rfl) (by rfl) (by rfl) (by rfl) ?_
    refine WL.p (by rfl) (Yl.pickF (by rfl) (by rfl)) ?_
    refine WL.p (by rfl) (Yl.move (by rfl)) ?_
    refine WL.skip (d := 30) (by rfl) (by rfl) (by rfl) (by rfl) ?_
    refine WL.p (by rfl) (Yl.pickF (by rfl) (by rfl)) ?_
    refine WL.p (by rfl) (Yl.assign (by rfl)) ?_
    refine WL.next ?_
    refine WC.ret ?_
    refine fin1' rfl (by rfl) ?_
    refine RetP.mk hs ?_
    clear hs hb h_x
    try simp only [← inR_true] at *
    try simp only [← inR_false] at *
    simp_all [TResponse.isv]
    try (intro hh; omega)

theorem c_spec_IsServer (s : PServer) (w : World) (h_s : Ph.ok w s) (hp : ∀ f ∈ s.files.l, f.response.policy.length ≤ 1048576) : Calls Tryz.prog 154 [.agg #[S s.host, Sl.v s.files]].toArray w (RetP w (Bo (serverOk s.lg))) := by
  have hw := h_s.files.lt
  refine enterN 57 Tryz.func154 rfl rfl rfl ?_
  have hs := Sat.start w
  refine WC.seq ?_
  refine WL.r (by rfl) (Yr.box hs (by rfl) (by rfl)) ?_
  clear hs; rintro _ w ⟨b1, rfl, hb, hs⟩; clear hb
  refine WL.p (by rfl) (Yl.assign (by rfl)) ?_
  refine WL.next ?_
  refine WC.seq' ?_
  refine WC.seq ?_
  refine WL.p (by rfl) (Yl.assign (by rfl)) ?_
  refine WL.next ?_
  refine WC.block ?_
  refine WC.loopC (ι := Nat) (fun k => s.files.l.length - k) (fun k => [(3, I (k : Int))]) (fun _ => []) (fun k => uniqF fileOk sameFile [] s.files.l = uniqF fileOk sameFile (s.files.l.take k) (s.files.l.drop k)) [(0, _), (1, _)] 0 (hs) ⟨by rfl, by rfl, trivial⟩ ⟨by rfl, trivial⟩ ?_ ?_
  ·
    simp
  clear hs; rintro k w hJ hs
  simp only [List.nil_append] at hs
  refine WC.seq' ?_
  refine WC.seq ?_
  refine WL.p (by rfl) (Yl.move (by rfl)) ?_
  refine WL.p (by rfl) (Yl.fieldAddr fa185_1 (by rfl)) ?_
  refine WL.p (by rfl) (Yl.loadB sca183 (by rfl) hs (by repeat (first | exact List.mem_cons_self | apply List.mem_cons_of_mem)) (by rfl)) ?_
  refine WL.p (by rfl) (Yl.len_sl slu183 (by rfl)) ?_
  refine WL.p (by rfl) (Yl.lss (by rfl) (by rfl)) ?_
  refine WL.next ?_
  refine WC.condS (by rfl) (fun h1 => ?_) (fun h1 => ?_)
  ·
    replace h1 := of_decide_eq_true h1
    obtain ⟨d, hd⟩ := exists_get (l := s.files.l) (k := k) (by omega)
    rw [uniq_step hd] at hJ
    have hpd : d.response.policy.length ≤ 1048576 := hp d (List.mem_of_getElem? hd)
    refine WC.skipn ?_
    refine WC.seq' ?_
    refine WC.block ?_
    refine WC.seq' ?_
    refine WC.seq ?_
    refine WL.p (by rfl) (Yl.fieldAddr fa185_1 (by rfl)) ?_
    refine WL.p (by rfl) (Yl.loadB sca183 (by rfl) hs (by repeat (first | exact List.mem_cons_self | apply List.mem_cons_of_mem)) (by rfl)) ?_
    refine WL.p (by rfl) (Yl.move (by rfl)) ?_
    refine WL.p (by rfl) (Yl.indexAddr slt183 (by rfl) (by rfl) (Ph.old h_s.files hs) (by rfl) (hd)) ?_
    refine WL.p (by rfl) (Yl.fieldAddr fa187_0 (by rfl)) ?_
    refine WL.p (by rfl) (Yl.loadC sca9 (by rfl) (Sl.Ok.at_ (Ph.old h_s.files hs) (by assumption)).2 (by rfl)) ?_
    refine WL.callp hs (by rfl) (Yc.func (by rfl) fn106) (c_spec_IsName _ _ (Ph.old (Sl.Ok.elem h_s.files hd).path hs)) ?_
    clear hs; intro w hs
    refine WL.p (by rfl) (Yl.not (by rfl)) ?_
    refine WL.p (by rfl) (Yl.move (by rfl)) ?_
    refine WL.split (d := 20) (by rfl) (fun h2 => ?_) (fun h2 => ?_)
    ·
      replace h2 := not_eq_true h2
      refine WL.skip (d := 20) (by rfl) (by rfl) (by rfl) (by rfl) ?_
      refine WL.skip (d := 20) (by rfl) (by rfl) (by rfl) (by rfl) ?_
      refine WL.skip (d := 20) (by rfl) (by rfl) (by rfl) (by rfl) ?_
      refine WL.skip (d := 20) (by rfl) (by rfl) (by rfl) (by rfl) ?_
      refine WL.skip (d := 20) (by rfl) (by rfl) (by rfl) (by rfl) ?_
      refine WL.skip (d := 20) (by rfl) (by rfl) (by rfl) (by rfl) ?_
      refine WL.skip (d := 20) (by rfl) (by rfl) (by rfl) (by rfl) ?_
      refine WL.skip (d := 20) (by rfl) (by rfl) (by rfl) (by rfl) ?_
      refine WL.p (by rfl) (Yl.pickT (by rfl) (by rfl)) ?_
      refine WL.next ?_
      refine WC.condT (by rfl) ?_
      refine WC.seq ?_
      refine WL.p (by rfl) (Yl.assign (by rfl)) ?_
      refine WL.next ?_
      refine WC.ret ?_
      refine At.thenret ?_
      refine At.blockret ?_
      refine At.thenret ?_
      refine At.thenret ?_
      refine At.blockret ?_
      refine At.thenret ?_
      refine fin1' rfl (by rfl) ?_
      refine RetP.mk hs ?_
      simp only [serverOk, filesOk]
      simp_all [fileOk, sameFile]
      try omega
    ·
      replace h2 := not_eq_false h2
      refine WL.run (d := 20) (by rfl) (by rfl) ?_
      refine WL.p (by rfl) (Yl.fieldAddr fa185_1 (by rfl)) ?_
      refine WL.run (d := 20) (by rfl) (by rfl) ?_
      refine WL.p (by rfl) (Yl.loadB sca183 (by rfl) hs (by repeat (first | exact List.mem_cons_self | apply List.mem_cons_of_mem)) (by rfl)) ?_
      refine WL.run (d := 20) (by rfl) (by rfl) ?_
      refine WL.p (by rfl) (Yl.move (by rfl)) ?_
      refine WL.run (d := 20) (by rfl) (by rfl) ?_
      refine WL.p (by rfl) (Yl.indexAddr slt183 (by rfl) (by rfl) (Ph.old h_s.files hs) (by rfl) (hd)) ?_
      refine WL.run (d := 20) (by rfl) (by rfl) ?_
      refine WL.p (by rfl) (Yl.fieldAddr fa187_1 (by rfl)) ?_
      refine WL.run (d := 20) (by rfl) (by rfl) ?_
      refine WL.p (by rfl) (Yl.loadAC agg41 (by rfl) (Sl.Ok.at_ (Ph.old h_s.files hs) (by assumption)).2 (by rfl) (by rfl)) ?_
      refine WL.run (d := 20) (by rfl) (by rfl) ?_
      refine WL.callp hs (by rfl) (Yc.func (by rfl) fn93) (c_spec_IsResponse _ _ ⟨(Ph.old (Sl.Ok.elem h_s.files hd).response.status hs), (Ph.old (Sl.Ok.elem h_s.files hd).response.kind hs), (Ph.old (Sl.Ok.elem h_s.files hd).response.body hs), (Ph.old (Sl.Ok.elem h_s.files hd).response.age hs), (Ph.old (Sl.Ok.elem h_s.files hd).response.shares hs), (Ph.old (Sl.Ok.elem h_s.files hd).response.policy hs)⟩ (by first | assumption | omega)) ?_
      clear hs; intro w hs
      refine WL.run (d := 20) (by rfl) (by rfl) ?_
      refine WL.p (by rfl) (Yl.not (by rfl)) ?_
      refine WL.p (by rfl) (Yl.pickF (by rfl) (by rfl)) ?_
      refine WL.next ?_
      refine WC.condS (by rfl) (fun h3 => ?_) (fun h3 => ?_)
      ·
        replace h3 := not_eq_true h3
        refine WC.seq ?_
        refine WL.p (by rfl) (Yl.assign (by rfl)) ?_
        refine WL.next ?_
        refine WC.ret ?_
        refine At.thenret ?_
        refine At.blockret ?_
        refine At.thenret ?_
        refine At.thenret ?_
        refine At.blockret ?_
        refine At.thenret ?_
        refine fin1' rfl (by rfl) ?_
        refine RetP.mk hs ?_
        simp only [serverOk, filesOk]
        simp_all [fileOk, sameFile]
        try omega
      ·
        replace h3 := not_eq_false h3
        refine WC.skipn ?_
        refine WC.seq ?_
        refine WL.p (by rfl) (Yl.assign (by rfl)) ?_
        refine WL.next ?_
        refine WC.block ?_
        refine WC.loopC (ι := Nat) (fun m => k - m) (fun m => [(4, I (m : Int))]) (fun _ => []) (fun m => (s.files.l.take k).any (sameFile d) = ((s.files.l.take k).drop m).any (sameFile d)) [(0, _), (1, _), (3, _), (5, _), (6, _), (7, _), (8, _), (9, _), (12, _), (13, _), (14, _), (15, _), (16, _), (17, _), (18, _), (19, _), (20, _), (21, _), (22, _), (23, _), (24, _), (25, _), (26, _), (27, _), (28, _), (29, _)] 0 (hs) ⟨by rfl, by rfl, by rfl, by rfl, by rfl, by rfl, by rfl, by rfl, by rfl, by rfl, by rfl, by rfl, by rfl, by rfl, by rfl, by rfl, by rfl, by rfl, by rfl, by rfl, by rfl, by rfl, by rfl, by rfl, by rfl, by rfl, trivial⟩ ⟨by rfl, trivial⟩ ?_ ?_
        ·
          simp
        clear hs; rintro m w hJ2 hs
        simp only [List.nil_append] at hs
        refine WC.seq' ?_
        refine WC.seq ?_
        refine WL.p (by rfl) (Yl.move (by rfl)) ?_
        refine WL.p (by rfl) (Yl.move (by rfl)) ?_
        refine WL.p (by rfl) (Yl.lss (by rfl) (by rfl)) ?_
        refine WL.next ?_
        refine WC.condS (by rfl) (fun h4 => ?_) (fun h4 => ?_)
        ·
          replace h4 := of_decide_eq_true h4
          obtain ⟨d2, hd2⟩ := exists_get (l := s.files.l) (k := m) (by omega)
          have hd3 : (s.files.l.take k)[m]? = some d2 := by rw [List.getElem?_take_of_lt (by omega)]; exact hd2
          rw [drop_cons hd3, List.any_cons] at hJ2
          refine WC.skipn ?_
          refine WC.seq' ?_
          refine WC.block ?_
          refine WC.quietn mixed (by kernel_rfl) hs ?_
          refine WQ.p (by rfl) (fun w hs => Yl.fieldAddr fa185_1 (by rfl)) ?_
          refine WQ.p (by rfl) (fun w hs => Yl.loadB sca183 (by rfl) hs (by repeat (first | exact List.mem_cons_self | apply List.mem_cons_of_mem)) (by rfl)) ?_
          refine WQ.p (by rfl) (fun w hs => Yl.move (by rfl)) ?_
          refine WQ.p (by rfl) (fun w hs => Yl.indexAddr slt183 (by rfl) (by rfl) (Ph.old h_s.files hs) (by rfl) (hd2)) ?_
          refine WQ.p (by rfl) (fun w hs => Yl.fieldAddr fa187_0 (by rfl)) ?_
          refine WQ.p (by rfl) (fun w hs => Yl.loadC sca9 (by rfl) (Sl.Ok.at_ (Ph.old h_s.files hs) (by assumption)).2 (by rfl)) ?_
          refine WQ.p (by rfl) (fun w hs => Yl.fieldAddr fa185_1 (by rfl)) ?_
          refine WQ.p (by rfl) (fun w hs => Yl.loadB sca183 (by rfl) hs (by repeat (first | exact List.mem_cons_self | apply List.mem_cons_of_mem)) (by rfl)) ?_
          refine WQ.p (by rfl) (fun w hs => Yl.move (by rfl)) ?_
          refine WQ.p (by rfl) (fun w hs => Yl.indexAddr slt183 (by rfl) (by rfl) (Ph.old h_s.files hs) (by rfl) (hd)) ?_
          refine WQ.p (by rfl) (fun w hs => Yl.fieldAddr fa187_0 (by rfl)) ?_
          refine WQ.p (by rfl) (fun w hs => Yl.loadC sca9 (by rfl) (Sl.Ok.at_ (Ph.old h_s.files hs) (by assumption)).2 (by rfl)) ?_
          refine WQ.p (by rfl) (fun w hs => Yl.eqs (by rfl) (by rfl)) ?_
          refine WQ.next ?_
          clear hs; intro w hs
          refine WC.condS (by rfl) (fun h5 => ?_) (fun h5 => ?_)
          ·
            replace h5 := of_decide_eq_true h5
            refine WC.seq ?_
            refine WL.p (by rfl) (Yl.assign (by rfl)) ?_
            refine WL.next ?_
            refine WC.ret ?_
            refine At.blockret ?_
            refine At.thenret ?_
            refine At.thenret ?_
            refine At.blockret ?_
            refine At.blockret ?_
            refine At.thenret ?_
            refine At.thenret ?_
            refine At.blockret ?_
            refine At.thenret ?_
            refine fin1' rfl (by rfl) ?_
            refine RetP.mk hs ?_
            simp only [serverOk, filesOk]
            simp_all [fileOk, sameFile]
            try omega
          ·
            replace h5 := of_decide_eq_false h5
            refine WC.skip ?_
            refine At.blocknormal ?_
            refine At.then_ ?_
            refine WC.region ?_
            refine WL.p (by rfl) (Yl.move (by rfl)) ?_
            refine WL.p (by rfl) (Yl.add (by rfl) (by rfl) (by omega)) ?_
            refine WL.p (by rfl) (Yl.assign (by rfl)) ?_
            refine WL.nil ?_
            refine At.roundC (m + 1) (hs.only (by repeat (first | exact Sel.nil | (apply Sel.cons; (repeat (first | exact Ext.here | apply Ext.there)))))) ⟨by rfl, by rfl, by rfl, by rfl, by rfl, by rfl, by rfl, by rfl, by rfl, by rfl, by rfl, by rfl, by rfl, by rfl, by rfl, by rfl, by rfl, by rfl, by rfl, by rfl, by rfl, by rfl, by rfl, by rfl, by rfl, by rfl, trivial⟩ ⟨by rfl, trivial⟩ ?_ ?_
            ·
              omega
            ·
              rw [hJ2]; simp_all [sameFile]
        ·
          replace h4 := of_decide_eq_false h4
          rw [drop_out (l := s.files.l.take k) (by simp; omega), List.any_nil] at hJ2
          refine WC.exit ?_
          refine At.thenexit ?_
          refine At.thenexit ?_
          refine At.blockexit ?_
          refine At.blocknormal ?_
          refine At.then_ ?_
          refine WC.region ?_
          refine WL.p (by rfl) (Yl.move (by rfl)) ?_
          refine WL.p (by rfl) (Yl.add (by rfl) (by rfl) (by omega)) ?_
          refine WL.p (by rfl) (Yl.assign (by rfl)) ?_
          refine WL.nil ?_
          refine At.roundC (k + 1) (hs.only (by repeat (first | exact Sel.nil | (apply Sel.cons; (repeat (first | exact Ext.here | apply Ext.there)))))) ⟨by rfl, by rfl, trivial⟩ ⟨by rfl, trivial⟩ ?_ ?_
          ·
            omega
          ·
            rw [hJ]; simp_all [fileOk]
  ·
    replace h1 := of_decide_eq_false h1
    rw [uniq_end (l := s.files.l) (by omega)] at hJ
    refine WC.exit ?_
    refine At.thenexit ?_
    refine At.thenexit ?_
    refine At.blockexit ?_
    refine At.then_ ?_
    refine WC.seq ?_
    refine WL.p (by rfl) (Yl.fieldAddr fa185_0 (by rfl)) ?_
    refine WL.p (by rfl) (Yl.loadB sca9 (by rfl) hs (by repeat (first | exact List.mem_cons_self | apply List.mem_cons_of_mem)) (by rfl)) ?_
    refine WL.callp hs (by rfl) (Yc.func (by rfl) fn106) (c_spec_IsName _ _ (Ph.old h_s.host hs)) ?_
    clear hs; intro w hs
    refine WL.p (by rfl) (Yl.move (by rfl)) ?_
    refine WL.split (d := 51) (by rfl) (fun h2 => ?_) (fun h2 => ?_)
    ·
      refine WL.run (d := 51) (by rfl) (by rfl) ?_
      refine WL.p (by rfl) (Yl.fieldAddr fa185_1 (by rfl)) ?_
      refine WL.run (d := 51) (by rfl) (by rfl) ?_
      refine WL.p (by rfl) (Yl.loadB sca183 (by rfl) hs (by repeat (first | exact List.mem_cons_self | apply List.mem_cons_of_mem)) (by rfl)) ?_
      refine WL.run (d := 51) (by rfl) (by rfl) ?_
      refine WL.p (by rfl) (Yl.len_sl slu183 (by rfl)) ?_
      refine WL.run (d := 51) (by rfl) (by rfl) ?_
      refine WL.p (by rfl) (Yl.leq (by rfl) (by rfl)) ?_
      refine WL.p (by rfl) (Yl.pickT (by rfl) (by rfl)) ?_
      refine WL.p (by rfl) (Yl.assign (by rfl)) ?_
      refine WL.next ?_
      refine WC.ret ?_
      refine fin1' rfl (by rfl) ?_
      refine RetP.mk hs ?_
      simp only [serverOk, filesOk]
      simp_all [fileOk, sameFile]
      try omega
    ·
      refine WL.skip (d := 51) (by rfl) (by rfl) (by rfl) (by rfl) ?_
      refine WL.skip (d := 51) (by rfl) (by rfl) (by rfl) (by rfl) ?_
      refine WL.skip (d := 51) (by rfl) (by rfl) (by rfl) (by rfl) ?_
      refine WL.skip (d := 51) (by rfl) (by rfl) (by rfl) (by rfl) ?_
      refine WL.p (by rfl) (Yl.pickF (by rfl) (by rfl)) ?_
      refine WL.p (by rfl) (Yl.assign (by rfl)) ?_
      refine WL.next ?_
      refine WC.ret ?_
      refine fin1' rfl (by rfl) ?_
      refine RetP.mk hs ?_
      simp only [serverOk, filesOk]
      simp_all [fileOk, sameFile]
      try omega

theorem c_spec_AreServers (l : (Sl PServer)) (w : World) (h_l : Ph.ok w l) (hb : lsz TServer.size (l.l.map PServer.lg) ≤ 1048576) : Calls Tryz.prog 85 [Sl.v l].toArray w (RetP w (Bo (serversOk (l.l.map PServer.lg)))) := by
  have hw := h_l.lt
  rw [serversOk_map]
  refine enterN 30 Tryz.func85 rfl rfl rfl ?_
  have hs := Sat.start w
  refine WC.seq ?_
  refine WL.p (by rfl) (Yl.assign (by rfl)) ?_
  refine WL.next ?_
  refine WC.seq' ?_
  refine WC.seq ?_
  refine WL.p (by rfl) (Yl.assign (by rfl)) ?_
  refine WL.next ?_
  refine WC.block ?_
  refine WC.loopC (ι := Nat) (fun k => l.l.length - k) (fun k => [(3, I (k : Int))]) (fun _ => []) (fun k => uniqF (fun d : PServer => serverOk d.lg) (fun d d2 : PServer => decide (d2.host = d.host)) [] l.l = uniqF (fun d : PServer => serverOk d.lg) (fun d d2 : PServer => decide (d2.host = d.host)) (l.l.take k) (l.l.drop k)) [(0, _)] 0 (hs) ⟨by rfl, trivial⟩ ⟨by rfl, trivial⟩ ?_ ?_
  ·
    simp
  clear hs; rintro k w hJ hs
  simp only [List.nil_append] at hs
  refine WC.seq' ?_
  refine WC.seq ?_
  refine WL.p (by rfl) (Yl.move (by rfl)) ?_
  refine WL.p (by rfl) (Yl.move (by rfl)) ?_
  refine WL.p (by rfl) (Yl.len_sl slu33 (by rfl)) ?_
  refine WL.p (by rfl) (Yl.lss (by rfl) (by rfl)) ?_
  refine WL.next ?_
  refine WC.condS (by rfl) (fun h1 => ?_) (fun h1 => ?_)
  ·
    replace h1 := of_decide_eq_true h1
    obtain ⟨d, hd⟩ := exists_get (l := l.l) (k := k) (by omega)
    rw [uniq_step hd] at hJ
    have hdl := lsum_le (f := fun d : PServer => d.lg.size) (List.mem_of_getElem? hd)
    have hpd : d.lg.size ≤ 1048576 := by rw [lsz_map] at hb; simp only [lsz] at hb; omega
    have hix := idx_first0 (p := fun s : PServer => decide (s.host = d.host)) hd (by simp)
    replace hix : _ ↔ (l.l.take k).any ((fun d d2 : PServer => decide (d2.host = d.host)) d) = false := hix
    generalize (l.l.take k).any ((fun d d2 : PServer => decide (d2.host = d.host)) d) = u at hJ hix
    refine WC.skipn ?_
    refine WC.seq' ?_
    refine WC.block ?_
    refine WC.seq ?_
    refine WL.p (by rfl) (Yl.move (by rfl)) ?_
    refine WL.p (by rfl) (Yl.move (by rfl)) ?_
    refine WL.p (by rfl) (Yl.indexAddr slt33 (by rfl) (by rfl) (Ph.old h_l hs) (by rfl) (hd)) ?_
    refine WL.p (by rfl) (Yl.loadA agg185 (by rfl) (Sl.Ok.at_ (Ph.old h_l hs) (by assumption)).2 (by rfl)) ?_
    refine WL.callp hs (by rfl) (Yc.func (by rfl) fn154) (c_spec_IsServer _ _ (Ph.old (Sl.Ok.elem h_l hd) hs) (by show ∀ f ∈ (PServer.lg _).files, _; exact srv_pol hpd)) ?_
    clear hs; intro w hs
    refine WL.p (by rfl) (Yl.not (by rfl)) ?_
    refine WL.p (by rfl) (Yl.move (by rfl)) ?_
    refine WL.split (d := 16) (by rfl) (fun h2 => ?_) (fun h2 => ?_)
    ·
      replace h2 := not_eq_true h2
      refine WL.skip (d := 16) (by rfl) (by rfl) (by rfl) (by rfl) ?_
      refine WL.skip (d := 16) (by rfl) (by rfl) (by rfl) (by rfl) ?_
      refine WL.skip (d := 16) (by rfl) (by rfl) (by rfl) (by rfl) ?_
      refine WL.skip (d := 16) (by rfl) (by rfl) (by rfl) (by rfl) ?_
      refine WL.skip (d := 16) (by rfl) (by rfl) (by rfl) (by rfl) ?_
      refine WL.skip (d := 16) (by rfl) (by rfl) (by rfl) (by rfl) ?_
      refine WL.skip (d := 16) (by rfl) (by rfl) (by rfl) (by rfl) ?_
      refine WL.skip (d := 16) (by rfl) (by rfl) (by rfl) (by rfl) ?_
      refine WL.skip (d := 16) (by rfl) (by rfl) (by rfl) (by rfl) ?_
      refine WL.p (by rfl) (Yl.pickT (by rfl) (by rfl)) ?_
      refine WL.next ?_
      refine WC.condT (by rfl) ?_
      refine WC.seq ?_
      refine WL.p (by rfl) (Yl.assign (by rfl)) ?_
      refine WL.next ?_
      refine WC.ret ?_
      refine At.blockret ?_
      refine At.thenret ?_
      refine At.thenret ?_
      refine At.blockret ?_
      refine At.thenret ?_
      refine fin1' rfl (by rfl) ?_
      refine RetP.mk hs ?_
      simp_all
      try omega
    ·
      replace h2 := not_eq_false h2
      refine WL.run (d := 16) (by rfl) (by rfl) ?_
      refine WL.p (by rfl) (Yl.move (by rfl)) ?_
      refine WL.run (d := 16) (by rfl) (by rfl) ?_
      refine WL.p (by rfl) (Yl.move (by rfl)) ?_
      refine WL.run (d := 16) (by rfl) (by rfl) ?_
      refine WL.p (by rfl) (Yl.move (by rfl)) ?_
      refine WL.run (d := 16) (by rfl) (by rfl) ?_
      refine WL.p (by rfl) (Yl.indexAddr slt33 (by rfl) (by rfl) (Ph.old h_l hs) (by rfl) (hd)) ?_
      refine WL.run (d := 16) (by rfl) (by rfl) ?_
      refine WL.p (by rfl) (Yl.fieldAddr fa185_0 (by rfl)) ?_
      refine WL.run (d := 16) (by rfl) (by rfl) ?_
      refine WL.p (by rfl) (Yl.loadC sca9 (by rfl) (Sl.Ok.at_ (Ph.old h_l hs) (by assumption)).2 (by rfl)) ?_
      refine WL.run (d := 16) (by rfl) (by rfl) ?_
      refine WL.callp hs (by rfl) (Yc.func (by rfl) fn136) (c_spec_l12Server _ _ _ (Ph.old h_l hs)) ?_
      clear hs; intro w hs
      refine WL.run (d := 16) (by rfl) (by rfl) ?_
      refine WL.p (by rfl) (Yl.move (by rfl)) ?_
      refine WL.run (d := 16) (by rfl) (by rfl) ?_
      refine WL.p (by rfl) (Yl.nei (by rfl) (by rfl)) ?_
      refine WL.p (by rfl) (Yl.pickF (by rfl) (by rfl)) ?_
      refine WL.next ?_
      refine WC.condS (by rfl) (fun h3 => ?_) (fun h3 => ?_)
      ·
        replace h3 := not_eq_true h3
        replace h3 := of_decide_eq_false h3
        refine WC.seq ?_
        refine WL.p (by rfl) (Yl.assign (by rfl)) ?_
        refine WL.next ?_
        refine WC.ret ?_
        refine At.blockret ?_
        refine At.thenret ?_
        refine At.thenret ?_
        refine At.blockret ?_
        refine At.thenret ?_
        refine fin1' rfl (by rfl) ?_
        refine RetP.mk hs ?_
        simp_all
        try omega
      ·
        replace h3 := not_eq_false h3
        replace h3 := of_decide_eq_true h3
        refine WC.skip ?_
        refine At.blocknormal ?_
        refine At.then_ ?_
        refine WC.region ?_
        refine WL.p (by rfl) (Yl.move (by rfl)) ?_
        refine WL.p (by rfl) (Yl.add (by rfl) (by rfl) (by omega)) ?_
        refine WL.p (by rfl) (Yl.assign (by rfl)) ?_
        refine WL.nil ?_
        refine At.roundC (k + 1) (hs.only (by repeat (first | exact Sel.nil | (apply Sel.cons; (repeat (first | exact Ext.here | apply Ext.there)))))) ⟨by rfl, trivial⟩ ⟨by rfl, trivial⟩ ?_ ?_
        ·
          omega
        ·
          rw [hJ]; simp_all
  ·
    replace h1 := of_decide_eq_false h1
    rw [uniq_end (l := l.l) (by omega)] at hJ
    refine WC.exit ?_
    refine At.thenexit ?_
    refine At.thenexit ?_
    refine At.blockexit ?_
    refine At.then_ ?_
    refine WC.seq ?_
    refine WL.p (by rfl) (Yl.move (by rfl)) ?_
    refine WL.p (by rfl) (Yl.len_sl slu33 (by rfl)) ?_
    refine WL.p (by rfl) (Yl.leq (by rfl) (by rfl)) ?_
    refine WL.p (by rfl) (Yl.assign (by rfl)) ?_
    refine WL.next ?_
    refine WC.ret ?_
    refine fin1' rfl (by rfl) ?_
    refine RetP.mk hs ?_
    simp_all
    try omega

theorem c_spec_IsAddr (a : TAddr) (w : World) (h_a : Ph.ok w a)  : Calls Tryz.prog 64 [.agg #[S a.host, S a.path]].toArray w (RetP w (Bo (a.is))) := by
  refine enterN 11 Tryz.func64 rfl rfl rfl ?_
  have hs := Sat.start w
  refine WC.seq ?_
  refine WL.r (by rfl) (Yr.box hs (by rfl) (by rfl)) ?_
  clear hs; rintro _ w ⟨b1, rfl, hb, hs⟩; clear hb
  refine WL.p (by rfl) (Yl.assign (by rfl)) ?_
  refine WL.next ?_
  refine WC.seq ?_
  refine WL.p (by rfl) (Yl.fieldAddr fa45_0 (by rfl)) ?_
  refine WL.p (by rfl) (Yl.loadB sca9 (by rfl) hs (by repeat (first | exact List.mem_cons_self | apply List.mem_cons_of_mem)) (by rfl)) ?_
  refine WL.callp hs (by rfl) (Yc.func (by rfl) fn106) (c_spec_IsName _ _ (Ph.old h_a.host hs)) ?_
  clear hs; intro w hs
  refine WL.p (by rfl) (Yl.move (by rfl)) ?_
  refine WL.split (d := 6) (by rfl) (fun h1 => ?_) (fun h1 => ?_)
  ·
    refine WL.run (d := 6) (by rfl) (by rfl) ?_
    refine WL.p (by rfl) (Yl.fieldAddr fa45_1 (by rfl)) ?_
    refine WL.run (d := 6) (by rfl) (by rfl) ?_
    refine WL.p (by rfl) (Yl.loadB sca9 (by rfl) hs (by repeat (first | exact List.mem_cons_self | apply List.mem_cons_of_mem)) (by rfl)) ?_
    refine WL.run (d := 6) (by rfl) (by rfl) ?_
    refine WL.callp hs (by rfl) (Yc.func (by rfl) fn106) (c_spec_IsName _ _ (Ph.old h_a.path hs)) ?_
    clear hs; intro w hs
    refine WL.p (by rfl) (Yl.pickT (by rfl) (by rfl)) ?_
    refine WL.p (by rfl) (Yl.assign (by rfl)) ?_
    refine WL.next ?_
    refine WC.ret ?_
    refine fin1' rfl (by rfl) ?_
    refine RetP.mk hs ?_
    simp_all [TAddr.is]
  ·
    refine WL.skip (d := 6) (by rfl) (by rfl) (by rfl) (by rfl) ?_
    refine WL.skip (d := 6) (by rfl) (by rfl) (by rfl) (by rfl) ?_
    refine WL.skip (d := 6) (by rfl) (by rfl) (by rfl) (by rfl) ?_
    refine WL.p (by rfl) (Yl.pickF (by rfl) (by rfl)) ?_
    refine WL.p (by rfl) (Yl.assign (by rfl)) ?_
    refine WL.next ?_
    refine WC.ret ?_
    refine fin1' rfl (by rfl) ?_
    refine RetP.mk hs ?_
    simp_all [TAddr.is]

theorem c_spec_l13Find (c : PCache) (top : Str) (a : TAddr) (w : World) (h_c : Ph.ok w c)  : Calls Tryz.prog 155 [.agg #[Sl.v c.entries], S top, .agg #[S a.host, S a.path]].toArray w (RetP w (I (idxF (fun e : TEntry => decide (e.top = top) && decide (e.to = a)) c.entries.l 0))) := by
  have hw := h_c.entries.lt
  refine enterN 34 Tryz.func155 rfl rfl rfl ?_
  have hs := Sat.start w
  refine WC.seq ?_
  refine WL.r (by rfl) (Yr.box hs (by rfl) (by rfl)) ?_
  clear hs; rintro _ w ⟨b1, rfl, hb, hs⟩; clear hb
  refine WL.r (by rfl) (Yr.box hs (by rfl) (by rfl)) ?_
  clear hs; rintro _ w ⟨b2, rfl, hb, hs⟩; clear hb
  refine WL.p (by rfl) (Yl.assign (by rfl)) ?_
  refine WL.next ?_
  refine WC.seq' ?_
  refine WC.seq ?_
  refine WL.p (by rfl) (Yl.assign (by rfl)) ?_
  refine WL.next ?_
  refine WC.block ?_
  refine WC.loopC (ι := Nat) (fun k => c.entries.l.length - k) (fun k => [(7, I (k : Int))]) (fun _ => []) (fun k => idxF (fun e : TEntry => decide (e.top = top) && decide (e.to = a)) c.entries.l 0 = idxF (fun e : TEntry => decide (e.top = top) && decide (e.to = a)) (c.entries.l.drop k) k) [(0, _), (1, _), (2, _), (3, _), (5, _)] 0 (hs) ⟨by rfl, by rfl, by rfl, by rfl, by rfl, trivial⟩ ⟨by rfl, trivial⟩ ?_ ?_
  ·
    simp
  clear hs; rintro k w hJ hs
  simp only [List.nil_append] at hs
  refine WC.seq' ?_
  refine WC.seq ?_
  refine WL.p (by rfl) (Yl.move (by rfl)) ?_
  refine WL.p (by rfl) (Yl.fieldAddr fa36_0 (by rfl)) ?_
  refine WL.p (by rfl) (Yl.loadB sca34 (by rfl) hs (by repeat (first | exact List.mem_cons_self | apply List.mem_cons_of_mem)) (by rfl)) ?_
  refine WL.p (by rfl) (Yl.len_sl slu34 (by rfl)) ?_
  refine WL.p (by rfl) (Yl.lss (by rfl) (by rfl)) ?_
  refine WL.next ?_
  refine WC.condS (by rfl) (fun h1 => ?_) (fun h1 => ?_)
  ·
    replace h1 := of_decide_eq_true h1
    obtain ⟨d, hd⟩ := exists_get (l := c.entries.l) (k := k) (by omega)
    rw [drop_cons hd] at hJ
    refine WC.skipn ?_
    refine WC.seq' ?_
    refine WC.block ?_
    refine WC.quietn mixed (by kernel_rfl) hs ?_
    refine WQ.p (by rfl) (fun w hs => Yl.fieldAddr fa36_0 (by rfl)) ?_
    refine WQ.p (by rfl) (fun w hs => Yl.loadB sca34 (by rfl) hs (by repeat (first | exact List.mem_cons_self | apply List.mem_cons_of_mem)) (by rfl)) ?_
    refine WQ.p (by rfl) (fun w hs => Yl.move (by rfl)) ?_
    refine WQ.p (by rfl) (fun w hs => Yl.indexAddr slt34 (by rfl) (by rfl) (Ph.old h_c.entries hs) (by rfl) (hd)) ?_
    refine WQ.p (by rfl) (fun w hs => Yl.fieldAddr fa180_0 (by rfl)) ?_
    refine WQ.p (by rfl) (fun w hs => Yl.loadC sca9 (by rfl) (Sl.Ok.at_ (Ph.old h_c.entries hs) (by assumption)).2 (by rfl)) ?_
    refine WQ.p (by rfl) (fun w hs => Yl.move (by rfl)) ?_
    refine WQ.p (by rfl) (fun w hs => Yl.eqs (by rfl) (by rfl)) ?_
    refine WQ.p (by rfl) (fun w hs => Yl.move (by rfl)) ?_
    refine WQ.split (d := 23) (by rfl) (fun h2 => ?_) (fun h2 => ?_)
    ·
      replace h2 := of_decide_eq_true h2
      refine WQ.run (d := 23) (by rfl) (by rfl) ?_
      refine WQ.p (by rfl) (fun w hs => Yl.fieldAddr fa36_0 (by rfl)) ?_
      refine WQ.run (d := 23) (by rfl) (by rfl) ?_
      refine WQ.p (by rfl) (fun w hs => Yl.loadB sca34 (by rfl) hs (by repeat (first | exact List.mem_cons_self | apply List.mem_cons_of_mem)) (by rfl)) ?_
      refine WQ.run (d := 23) (by rfl) (by rfl) ?_
      refine WQ.p (by rfl) (fun w hs => Yl.move (by rfl)) ?_
      refine WQ.run (d := 23) (by rfl) (by rfl) ?_
      refine WQ.p (by rfl) (fun w hs => Yl.indexAddr slt34 (by rfl) (by rfl) (Ph.old h_c.entries hs) (by rfl) (hd)) ?_
      refine WQ.run (d := 23) (by rfl) (by rfl) ?_
      refine WQ.p (by rfl) (fun w hs => Yl.fieldAddr fa180_1 (by rfl)) ?_
      refine WQ.run (d := 23) (by rfl) (by rfl) ?_
      refine WQ.p (by rfl) (fun w hs => Yl.loadAC agg45 (by rfl) (Sl.Ok.at_ (Ph.old h_c.entries hs) (by assumption)).2 (by rfl) (by rfl)) ?_
      refine WQ.run (d := 23) (by rfl) (by rfl) ?_
      refine WQ.p (by rfl) (fun w hs => Yl.loadAB agg45 (by rfl) hs (by repeat (first | exact List.mem_cons_self | apply List.mem_cons_of_mem)) (by rfl) (by rfl)) ?_
      refine WQ.run (d := 23) (by rfl) (by rfl) ?_
      refine WQ.p (by rfl) (fun w hs => Yl.eqt eqt45 (by rfl) (by rfl)) ?_
      refine WQ.p (by rfl) (fun w hs => Yl.pickT (by rfl) (by rfl)) ?_
      refine WQ.next ?_
      clear hs; intro w hs
      refine WC.condS (by rfl) (fun h3 => ?_) (fun h3 => ?_)
      ·
        replace h3 := of_decide_eq_true h3
        refine WC.seq ?_
        refine WL.p (by rfl) (Yl.move (by rfl)) ?_
        refine WL.p (by rfl) (Yl.assign (by rfl)) ?_
        refine WL.next ?_
        refine WC.ret ?_
        refine At.blockret ?_
        refine At.thenret ?_
        refine At.thenret ?_
        refine At.blockret ?_
        refine At.thenret ?_
        refine fin1' rfl (by rfl) ?_
        refine RetP.mk hs ?_
        rw [hJ]; simp_all [idxF]
      ·
        replace h3 := of_decide_eq_false h3
        refine WC.skip ?_
        refine At.blocknormal ?_
        refine At.then_ ?_
        refine WC.region ?_
        refine WL.p (by rfl) (Yl.move (by rfl)) ?_
        refine WL.p (by rfl) (Yl.add (by rfl) (by rfl) (by omega)) ?_
        refine WL.p (by rfl) (Yl.assign (by rfl)) ?_
        refine WL.nil ?_
        refine At.roundC (k + 1) (hs.only (by repeat (first | exact Sel.nil | (apply Sel.cons; (repeat (first | exact Ext.here | apply Ext.there)))))) ⟨by rfl, by rfl, by rfl, by rfl, by rfl, trivial⟩ ⟨by rfl, trivial⟩ ?_ ?_
        ·
          omega
        ·
          rw [hJ]; simp_all [idxF]
    ·
      replace h2 := of_decide_eq_false h2
      refine WQ.skip (d := 23) (by rfl) (by rfl) (by rfl) (by rfl) ?_
      refine WQ.skip (d := 23) (by rfl) (by rfl) (by rfl) (by rfl) ?_
      refine WQ.skip (d := 23) (by rfl) (by rfl) (by rfl) (by rfl) ?_
      refine WQ.skip (d := 23) (by rfl) (by rfl) (by rfl) (by rfl) ?_
      refine WQ.skip (d := 23) (by rfl) (by rfl) (by rfl) (by rfl) ?_
      refine WQ.skip (d := 23) (by rfl) (by rfl) (by rfl) (by rfl) ?_
      refine WQ.skip (d := 23) (by rfl) (by rfl) (by rfl) (by rfl) ?_
      refine WQ.skip (d := 23) (by rfl) (by rfl) (by rfl) (by rfl) ?_
      refine WQ.p (by rfl) (fun w hs => Yl.pickF (by rfl) (by rfl)) ?_
      refine WQ.next ?_
      clear hs; intro w hs
      refine WC.condF (by rfl) ?_
      refine WC.skip ?_
      refine At.blocknormal ?_
      refine At.then_ ?_
      refine WC.region ?_
      refine WL.p (by rfl) (Yl.move (by rfl)) ?_
      refine WL.p (by rfl) (Yl.add (by rfl) (by rfl) (by omega)) ?_
      refine WL.p (by rfl) (Yl.assign (by rfl)) ?_
      refine WL.nil ?_
      refine At.roundC (k + 1) (hs.only (by repeat (first | exact Sel.nil | (apply Sel.cons; (repeat (first | exact Ext.here | apply Ext.there)))))) ⟨by rfl, by rfl, by rfl, by rfl, by rfl, trivial⟩ ⟨by rfl, trivial⟩ ?_ ?_
      ·
        omega
      ·
        rw [hJ]; simp_all [idxF]
  ·
    replace h1 := of_decide_eq_false h1
    rw [drop_out (l := c.entries.l) (by omega)] at hJ
    refine WC.exit ?_
    refine At.thenexit ?_
    refine At.thenexit ?_
    refine At.blockexit ?_
    refine At.then_ ?_
    refine WC.seq ?_
    refine WL.p (by rfl) (Yl.assign (by rfl)) ?_
    refine WL.next ?_
    refine WC.ret ?_
    refine fin1' rfl (by rfl) ?_
    refine RetP.mk hs ?_
    rw [hJ]; simp_all [idxF]

theorem c_spec_IsCache (c : PCache) (w : World) (h_c : Ph.ok w c) (hp : ∀ e ∈ c.entries.l, e.response.policy.length ≤ 1048576) : Calls Tryz.prog 86 [.agg #[Sl.v c.entries]].toArray w (RetP w (Bo (cacheOk c.lg))) := by
  have hw := h_c.entries.lt
  refine enterN 53 Tryz.func86 rfl rfl rfl ?_
  have hs := Sat.start w
  refine WC.seq ?_
  refine WL.r (by rfl) (Yr.box hs (by rfl) (by rfl)) ?_
  clear hs; rintro _ w ⟨b1, rfl, hb, hs⟩; clear hb
  refine WL.p (by rfl) (Yl.assign (by rfl)) ?_
  refine WL.next ?_
  refine WC.seq' ?_
  refine WC.seq ?_
  refine WL.p (by rfl) (Yl.assign (by rfl)) ?_
  refine WL.next ?_
  refine WC.block ?_
  refine WC.loopC (ι := Nat) (fun k => c.entries.l.length - k) (fun k => [(3, I (k : Int))]) (fun _ => []) (fun k => uniqF entryOk sameEntry [] c.entries.l = uniqF entryOk sameEntry (c.entries.l.take k) (c.entries.l.drop k)) [(0, _), (1, _)] 0 (hs) ⟨by rfl, by rfl, trivial⟩ ⟨by rfl, trivial⟩ ?_ ?_
  ·
    simp
  clear hs; rintro k w hJ hs
  simp only [List.nil_append] at hs
  refine WC.seq' ?_
  refine WC.seq ?_
  refine WL.p (by rfl) (Yl.move (by rfl)) ?_
  refine WL.p (by rfl) (Yl.fieldAddr fa36_0 (by rfl)) ?_
  refine WL.p (by rfl) (Yl.loadB sca34 (by rfl) hs (by repeat (first | exact List.mem_cons_self | apply List.mem_cons_of_mem)) (by rfl)) ?_
  refine WL.p (by rfl) (Yl.len_sl slu34 (by rfl)) ?_
  refine WL.p (by rfl) (Yl.lss (by rfl) (by rfl)) ?_
  refine WL.next ?_
  refine WC.condS (by rfl) (fun h1 => ?_) (fun h1 => ?_)
  ·
    replace h1 := of_decide_eq_true h1
    obtain ⟨d, hd⟩ := exists_get (l := c.entries.l) (k := k) (by omega)
    rw [uniq_step hd] at hJ
    have hpd : d.response.policy.length ≤ 1048576 := hp d (List.mem_of_getElem? hd)
    have hix := idx_first0 (p := fun e : TEntry => decide (e.top = d.top) && decide (e.to = d.to)) hd (by simp)
    replace hix : _ ↔ (c.entries.l.take k).any (sameEntry d) = false := hix
    generalize (c.entries.l.take k).any (sameEntry d) = u at hJ hix
    refine WC.skipn ?_
    refine WC.seq' ?_
    refine WC.block ?_
    refine WC.seq ?_
    refine WL.p (by rfl) (Yl.fieldAddr fa36_0 (by rfl)) ?_
    refine WL.p (by rfl) (Yl.loadB sca34 (by rfl) hs (by repeat (first | exact List.mem_cons_self | apply List.mem_cons_of_mem)) (by rfl)) ?_
    refine WL.p (by rfl) (Yl.move (by rfl)) ?_
    refine WL.p (by rfl) (Yl.indexAddr slt34 (by rfl) (by rfl) (Ph.old h_c.entries hs) (by rfl) (hd)) ?_
    refine WL.p (by rfl) (Yl.loadA agg180 (by rfl) (Sl.Ok.at_ (Ph.old h_c.entries hs) (by assumption)).2 (by rfl)) ?_
    refine WL.r (by rfl) (Yr.alloc hs zt180) ?_
    clear hs; rintro _ w ⟨b2, rfl, hb, hs⟩; clear hb
    refine WL.s (Yr.storeB hs (by rfl) (by rfl) (by rfl) (by repeat (first | exact Repl.here | apply Repl.there)) (by repeat (first | (apply SetAt.here; repeat (first | exact Over.nil | apply Over.cons)) | apply SetAt.there)) (by rfl) (by exact szf180)) ?_
    clear hs; rintro _ w hs
    refine WL.next ?_
    refine WC.seq ?_
    refine WL.p (by rfl) (Yl.fieldAddr fa180_0 (by rfl)) ?_
    refine WL.p (by rfl) (Yl.loadB sca9 (by rfl) hs (by repeat (first | exact List.mem_cons_self | apply List.mem_cons_of_mem)) (by rfl)) ?_
    refine WL.callp hs (by rfl) (Yc.func (by rfl) fn106) (c_spec_IsName _ _ (Ph.old (Sl.Ok.elem h_c.entries hd).top hs)) ?_
    clear hs; intro w hs
    refine WL.p (by rfl) (Yl.not (by rfl)) ?_
    refine WL.p (by rfl) (Yl.move (by rfl)) ?_
    refine WL.split (d := 21) (by rfl) (fun h2 => ?_) (fun h2 => ?_)
    ·
      replace h2 := not_eq_true h2
      refine WL.skip (d := 21) (by rfl) (by rfl) (by rfl) (by rfl) ?_
      refine WL.skip (d := 21) (by rfl) (by rfl) (by rfl) (by rfl) ?_
      refine WL.skip (d := 21) (by rfl) (by rfl) (by rfl) (by rfl) ?_
      refine WL.skip (d := 21) (by rfl) (by rfl) (by rfl) (by rfl) ?_
      refine WL.p (by rfl) (Yl.pickT (by rfl) (by rfl)) ?_
      refine WL.p (by rfl) (Yl.move (by rfl)) ?_
      refine WL.skip (d := 27) (by rfl) (by rfl) (by rfl) (by rfl) ?_
      refine WL.skip (d := 27) (by rfl) (by rfl) (by rfl) (by rfl) ?_
      refine WL.skip (d := 27) (by rfl) (by rfl) (by rfl) (by rfl) ?_
      refine WL.skip (d := 27) (by rfl) (by rfl) (by rfl) (by rfl) ?_
      refine WL.p (by rfl) (Yl.pickT (by rfl) (by rfl)) ?_
      refine WL.p (by rfl) (Yl.move (by rfl)) ?_
      refine WL.skip (d := 33) (by rfl) (by rfl) (by rfl) (by rfl) ?_
      refine WL.skip (d := 33) (by rfl) (by rfl) (by rfl) (by rfl) ?_
      refine WL.skip (d := 33) (by rfl) (by rfl) (by rfl) (by rfl) ?_
      refine WL.skip (d := 33) (by rfl) (by rfl) (by rfl) (by rfl) ?_
      refine WL.p (by rfl) (Yl.pickT (by rfl) (by rfl)) ?_
      refine WL.p (by rfl) (Yl.move (by rfl)) ?_
      refine WL.skip (d := 39) (by rfl) (by rfl) (by rfl) (by rfl) ?_
      refine WL.skip (d := 39) (by rfl) (by rfl) (by rfl) (by rfl) ?_
      refine WL.skip (d := 39) (by rfl) (by rfl) (by rfl) (by rfl) ?_
      refine WL.skip (d := 39) (by rfl) (by rfl) (by rfl) (by rfl) ?_
      refine WL.skip (d := 39) (by rfl) (by rfl) (by rfl) (by rfl) ?_
      refine WL.skip (d := 39) (by rfl) (by rfl) (by rfl) (by rfl) ?_
      refine WL.skip (d := 39) (by rfl) (by rfl) (by rfl) (by rfl) ?_
      refine WL.skip (d := 39) (by rfl) (by rfl) (by rfl) (by rfl) ?_
      refine WL.p (by rfl) (Yl.pickT (by rfl) (by rfl)) ?_
      refine WL.next ?_
      refine WC.condT (by rfl) ?_
      refine WC.seq ?_
      refine WL.p (by rfl) (Yl.assign (by rfl)) ?_
      refine WL.next ?_
      refine WC.ret ?_
      refine At.blockret ?_
      refine At.thenret ?_
      refine At.thenret ?_
      refine At.blockret ?_
      refine At.thenret ?_
      refine fin1' rfl (by rfl) ?_
      refine RetP.mk hs ?_
      simp only [cacheOk]
      simp_all [entryOk]
      try omega
    ·
      replace h2 := not_eq_false h2
      refine WL.run (d := 21) (by rfl) (by rfl) ?_
      refine WL.p (by rfl) (Yl.fieldAddr fa180_1 (by rfl)) ?_
      refine WL.run (d := 21) (by rfl) (by rfl) ?_
      refine WL.p (by rfl) (Yl.loadAB agg45 (by rfl) hs (by repeat (first | exact List.mem_cons_self | apply List.mem_cons_of_mem)) (by rfl) (by rfl)) ?_
      refine WL.run (d := 21) (by rfl) (by rfl) ?_
      refine WL.callp hs (by rfl) (Yc.func (by rfl) fn64) (c_spec_IsAddr _ _ ⟨(Ph.old (Sl.Ok.elem h_c.entries hd).to.host hs), (Ph.old (Sl.Ok.elem h_c.entries hd).to.path hs)⟩) ?_
      clear hs; intro w hs
      refine WL.run (d := 21) (by rfl) (by rfl) ?_
      refine WL.p (by rfl) (Yl.not (by rfl)) ?_
      refine WL.p (by rfl) (Yl.pickF (by rfl) (by rfl)) ?_
      refine WL.p (by rfl) (Yl.move (by rfl)) ?_
      refine WL.split (d := 27) (by rfl) (fun h3 => ?_) (fun h3 => ?_)
      ·
        replace h3 := not_eq_true h3
        refine WL.skip (d := 27) (by rfl) (by rfl) (by rfl) (by rfl) ?_
        refine WL.skip (d := 27) (by rfl) (by rfl) (by rfl) (by rfl) ?_
        refine WL.skip (d := 27) (by rfl) (by rfl) (by rfl) (by rfl) ?_
        refine WL.skip (d := 27) (by rfl) (by rfl) (by rfl) (by rfl) ?_
        refine WL.p (by rfl) (Yl.pickT (by rfl) (by rfl)) ?_
        refine WL.p (by rfl) (Yl.move (by rfl)) ?_
        refine WL.skip (d := 33) (by rfl) (by rfl) (by rfl) (by rfl) ?_
        refine WL.skip (d := 33) (by rfl) (by rfl) (by rfl) (by rfl) ?_
        refine WL.skip (d := 33) (by rfl) (by rfl) (by rfl) (by rfl) ?_
        refine WL.skip (d := 33) (by rfl) (by rfl) (by rfl) (by rfl) ?_
        refine WL.p (by rfl) (Yl.pickT (by rfl) (by rfl)) ?_
        refine WL.p (by rfl) (Yl.move (by rfl)) ?_
        refine WL.skip (d := 39) (by rfl) (by rfl) (by rfl) (by rfl) ?_
        refine WL.skip (d := 39) (by rfl) (by rfl) (by rfl) (by rfl) ?_
        refine WL.skip (d := 39) (by rfl) (by rfl) (by rfl) (by rfl) ?_
        refine WL.skip (d := 39) (by rfl) (by rfl) (by rfl) (by rfl) ?_
        refine WL.skip (d := 39) (by rfl) (by rfl) (by rfl) (by rfl) ?_
        refine WL.skip (d := 39) (by rfl) (by rfl) (by rfl) (by rfl) ?_
        refine WL.skip (d := 39) (by rfl) (by rfl) (by rfl) (by rfl) ?_
        refine WL.skip (d := 39) (by rfl) (by rfl) (by rfl) (by rfl) ?_
        refine WL.p (by rfl) (Yl.pickT (by rfl) (by rfl)) ?_
        refine WL.next ?_
        refine WC.condT (by rfl) ?_
        refine WC.seq ?_
        refine WL.p (by rfl) (Yl.assign (by rfl)) ?_
        refine WL.next ?_
        refine WC.ret ?_
        refine At.blockret ?_
        refine At.thenret ?_
        refine At.thenret ?_
        refine At.blockret ?_
        refine At.thenret ?_
        refine fin1' rfl (by rfl) ?_
        refine RetP.mk hs ?_
        simp only [cacheOk]
        simp_all [entryOk]
        try omega
      ·
        replace h3 := not_eq_false h3
        refine WL.run (d := 27) (by rfl) (by rfl) ?_
        refine WL.p (by rfl) (Yl.fieldAddr fa180_2 (by rfl)) ?_
        refine WL.run (d := 27) (by rfl) (by rfl) ?_
        refine WL.p (by rfl) (Yl.loadAB agg41 (by rfl) hs (by repeat (first | exact List.mem_cons_self | apply List.mem_cons_of_mem)) (by rfl) (by rfl)) ?_
        refine WL.run (d := 27) (by rfl) (by rfl) ?_
        refine WL.callp hs (by rfl) (Yc.func (by rfl) fn93) (c_spec_IsResponse _ _ ⟨(Ph.old (Sl.Ok.elem h_c.entries hd).response.status hs), (Ph.old (Sl.Ok.elem h_c.entries hd).response.kind hs), (Ph.old (Sl.Ok.elem h_c.entries hd).response.body hs), (Ph.old (Sl.Ok.elem h_c.entries hd).response.age hs), (Ph.old (Sl.Ok.elem h_c.entries hd).response.shares hs), (Ph.old (Sl.Ok.elem h_c.entries hd).response.policy hs)⟩ (by first | assumption | omega)) ?_
        clear hs; intro w hs
        refine WL.run (d := 27) (by rfl) (by rfl) ?_
        refine WL.p (by rfl) (Yl.not (by rfl)) ?_
        refine WL.p (by rfl) (Yl.pickF (by rfl) (by rfl)) ?_
        refine WL.p (by rfl) (Yl.move (by rfl)) ?_
        refine WL.split (d := 33) (by rfl) (fun h4 => ?_) (fun h4 => ?_)
        ·
          replace h4 := not_eq_true h4
          refine WL.skip (d := 33) (by rfl) (by rfl) (by rfl) (by rfl) ?_
          refine WL.skip (d := 33) (by rfl) (by rfl) (by rfl) (by rfl) ?_
          refine WL.skip (d := 33) (by rfl) (by rfl) (by rfl) (by rfl) ?_
          refine WL.skip (d := 33) (by rfl) (by rfl) (by rfl) (by rfl) ?_
          refine WL.p (by rfl) (Yl.pickT (by rfl) (by rfl)) ?_
          refine WL.p (by rfl) (Yl.move (by rfl)) ?_
          refine WL.skip (d := 39) (by rfl) (by rfl) (by rfl) (by rfl) ?_
          refine WL.skip (d := 39) (by rfl) (by rfl) (by rfl) (by rfl) ?_
          refine WL.skip (d := 39) (by rfl) (by rfl) (by rfl) (by rfl) ?_
          refine WL.skip (d := 39) (by rfl) (by rfl) (by rfl) (by rfl) ?_
          refine WL.skip (d := 39) (by rfl) (by rfl) (by rfl) (by rfl) ?_
          refine WL.skip (d := 39) (by rfl) (by rfl) (by rfl) (by rfl) ?_
          refine WL.skip (d := 39) (by rfl) (by rfl) (by rfl) (by rfl) ?_
          refine WL.skip (d := 39) (by rfl) (by rfl) (by rfl) (by rfl) ?_
          refine WL.p (by rfl) (Yl.pickT (by rfl) (by rfl)) ?_
          refine WL.next ?_
          refine WC.condT (by rfl) ?_
          refine WC.seq ?_
          refine WL.p (by rfl) (Yl.assign (by rfl)) ?_
          refine WL.next ?_
          refine WC.ret ?_
          refine At.blockret ?_
          refine At.thenret ?_
          refine At.thenret ?_
          refine At.blockret ?_
          refine At.thenret ?_
          refine fin1' rfl (by rfl) ?_
          refine RetP.mk hs ?_
          simp only [cacheOk]
          simp_all [entryOk]
          try omega
        ·
          replace h4 := not_eq_false h4
          refine WL.run (d := 33) (by rfl) (by rfl) ?_
          refine WL.p (by rfl) (Yl.fieldAddr fa180_2 (by rfl)) ?_
          refine WL.run (d := 33) (by rfl) (by rfl) ?_
          refine WL.p (by rfl) (Yl.fieldAddr fa41_0 (by rfl)) ?_
          refine WL.run (d := 33) (by rfl) (by rfl) ?_
          refine WL.p (by rfl) (Yl.loadB sca3 (by rfl) hs (by repeat (first | exact List.mem_cons_self | apply List.mem_cons_of_mem)) (by rfl)) ?_
          refine WL.run (d := 33) (by rfl) (by rfl) ?_
          refine WL.p (by rfl) (Yl.nei (by rfl) (by rfl)) ?_
          refine WL.p (by rfl) (Yl.pickF (by rfl) (by rfl)) ?_
          refine WL.p (by rfl) (Yl.move (by rfl)) ?_
          refine WL.split (d := 39) (by rfl) (fun h5 => ?_) (fun h5 => ?_)
          ·
            replace h5 := not_eq_true h5
            replace h5 := of_decide_eq_false h5
            refine WL.skip (d := 39) (by rfl) (by rfl) (by rfl) (by rfl) ?_
            refine WL.skip (d := 39) (by rfl) (by rfl) (by rfl) (by rfl) ?_
            refine WL.skip (d := 39) (by rfl) (by rfl) (by rfl) (by rfl) ?_
            refine WL.skip (d := 39) (by rfl) (by rfl) (by rfl) (by rfl) ?_
            refine WL.skip (d := 39) (by rfl) (by rfl) (by rfl) (by rfl) ?_
            refine WL.skip (d := 39) (by rfl) (by rfl) (by rfl) (by rfl) ?_
            refine WL.skip (d := 39) (by rfl) (by rfl) (by rfl) (by rfl) ?_
            refine WL.skip (d := 39) (by rfl) (by rfl) (by rfl) (by rfl) ?_
            refine WL.p (by rfl) (Yl.pickT (by rfl) (by rfl)) ?_
            refine WL.next ?_
            refine WC.condT (by rfl) ?_
            refine WC.seq ?_
            refine WL.p (by rfl) (Yl.assign (by rfl)) ?_
            refine WL.next ?_
            refine WC.ret ?_
            refine At.blockret ?_
            refine At.thenret ?_
            refine At.thenret ?_
            refine At.blockret ?_
            refine At.thenret ?_
            refine fin1' rfl (by rfl) ?_
            refine RetP.mk hs ?_
            simp only [cacheOk]
            simp_all [entryOk]
            try omega
          ·
            replace h5 := not_eq_false h5
            replace h5 := of_decide_eq_true h5
            refine WL.run (d := 39) (by rfl) (by rfl) ?_
            refine WL.p (by rfl) (Yl.loadAB agg36 (by rfl) hs (by repeat (first | exact List.mem_cons_self | apply List.mem_cons_of_mem)) (by rfl) (by rfl)) ?_
            refine WL.run (d := 39) (by rfl) (by rfl) ?_
            refine WL.p (by rfl) (Yl.fieldAddr fa180_0 (by rfl)) ?_
            refine WL.run (d := 39) (by rfl) (by rfl) ?_
            refine WL.p (by rfl) (Yl.loadB sca9 (by rfl) hs (by repeat (first | exact List.mem_cons_self | apply List.mem_cons_of_mem)) (by rfl)) ?_
            refine WL.run (d := 39) (by rfl) (by rfl) ?_
            refine WL.p (by rfl) (Yl.fieldAddr fa180_1 (by rfl)) ?_
            refine WL.run (d := 39) (by rfl) (by rfl) ?_
            refine WL.p (by rfl) (Yl.loadAB agg45 (by rfl) hs (by repeat (first | exact List.mem_cons_self | apply List.mem_cons_of_mem)) (by rfl) (by rfl)) ?_
            refine WL.run (d := 39) (by rfl) (by rfl) ?_
            refine WL.callp hs (by rfl) (Yc.func (by rfl) fn155) (c_spec_l13Find _ _ _ _ (Ph.old h_c hs)) ?_
            clear hs; intro w hs
            refine WL.run (d := 39) (by rfl) (by rfl) ?_
            refine WL.p (by rfl) (Yl.move (by rfl)) ?_
            refine WL.run (d := 39) (by rfl) (by rfl) ?_
            refine WL.p (by rfl) (Yl.nei (by rfl) (by rfl)) ?_
            refine WL.p (by rfl) (Yl.pickF (by rfl) (by rfl)) ?_
            refine WL.next ?_
            refine WC.condS (by rfl) (fun h6 => ?_) (fun h6 => ?_)
            ·
              replace h6 := not_eq_true h6
              replace h6 := of_decide_eq_false h6
              refine WC.seq ?_
              refine WL.p (by rfl) (Yl.assign (by rfl)) ?_
              refine WL.next ?_
              refine WC.ret ?_
              refine At.blockret ?_
              refine At.thenret ?_
              refine At.thenret ?_
              refine At.blockret ?_
              refine At.thenret ?_
              refine fin1' rfl (by rfl) ?_
              refine RetP.mk hs ?_
              simp only [cacheOk]
              simp_all [entryOk]
              try omega
            ·
              replace h6 := not_eq_false h6
              replace h6 := of_decide_eq_true h6
              refine WC.skip ?_
              refine At.blocknormal ?_
              refine At.then_ ?_
              refine WC.region ?_
              refine WL.p (by rfl) (Yl.move (by rfl)) ?_
              refine WL.p (by rfl) (Yl.add (by rfl) (by rfl) (by omega)) ?_
              refine WL.p (by rfl) (Yl.assign (by rfl)) ?_
              refine WL.nil ?_
              refine At.roundC (k + 1) (hs.only (by repeat (first | exact Sel.nil | (apply Sel.cons; (repeat (first | exact Ext.here | apply Ext.there)))))) ⟨by rfl, by rfl, trivial⟩ ⟨by rfl, trivial⟩ ?_ ?_
              ·
                omega
              ·
                rw [hJ]; simp_all [entryOk]
  ·
    replace h1 := of_decide_eq_false h1
    rw [uniq_end (l := c.entries.l) (by omega)] at hJ
    refine WC.exit ?_
    refine At.thenexit ?_
    refine At.thenexit ?_
    refine At.blockexit ?_
    refine At.then_ ?_
    refine WC.seq ?_
    refine WL.p (by rfl) (Yl.fieldAddr fa36_0 (by rfl)) ?_
    refine WL.p (by rfl) (Yl.loadB sca34 (by rfl) hs (by repeat (first | exact List.mem_cons_self | apply List.mem_cons_of_mem)) (by rfl)) ?_
    refine WL.p (by rfl) (Yl.len_sl slu34 (by rfl)) ?_
    refine WL.p (by rfl) (Yl.leq (by rfl) (by rfl)) ?_
    refine WL.p (by rfl) (Yl.assign (by rfl)) ?_
    refine WL.next ?_
    refine WC.ret ?_
    refine fin1' rfl (by rfl) ?_
    refine RetP.mk hs ?_
    simp only [cacheOk]
    simp_all [entryOk]
    try omega

theorem c_spec_IsNet (n : PNet) (w : World) (h_n : Ph.ok w n) (hbs : lsz TServer.size n.lg.servers ≤ 1048576) (hbc : n.lg.cache.size ≤ 1048576) (hbl : n.log.l.length ≤ 1048577) : Calls Tryz.prog 21 [.agg #[Sl.v n.servers, Sl.v n.cache.entries, Sl.v n.log, I n.now]].toArray w (RetP w (Bo (netOk n.lg))) := by
  refine enterN 22 Tryz.func21 rfl rfl rfl ?_
  have hs := Sat.start w
  refine WC.seq ?_
  refine WL.r (by rfl) (Yr.box hs (by rfl) (by rfl)) ?_
  clear hs; rintro _ w ⟨b1, rfl, hb, hs⟩; clear hb
  refine WL.p (by rfl) (Yl.assign (by rfl)) ?_
  refine WL.next ?_
  refine WC.seq ?_
  refine WL.p (by rfl) (Yl.fieldAddr fa39_0 (by rfl)) ?_
  refine WL.p (by rfl) (Yl.loadB sca33 (by rfl) hs (by repeat (first | exact List.mem_cons_self | apply List.mem_cons_of_mem)) (by rfl)) ?_
  refine WL.callp hs (by rfl) (Yc.func (by rfl) fn85) (c_spec_AreServers _ _ (Ph.old h_n.servers hs) (by exact hbs)) ?_
  clear hs; intro w hs
  refine WL.p (by rfl) (Yl.move (by rfl)) ?_
  refine WL.split (d := 6) (by rfl) (fun h1 => ?_) (fun h1 => ?_)
  ·
    refine WL.run (d := 6) (by rfl) (by rfl) ?_
    refine WL.p (by rfl) (Yl.fieldAddr fa39_1 (by rfl)) ?_
    refine WL.run (d := 6) (by rfl) (by rfl) ?_
    refine WL.p (by rfl) (Yl.loadAB agg36 (by rfl) hs (by repeat (first | exact List.mem_cons_self | apply List.mem_cons_of_mem)) (by rfl) (by rfl)) ?_
    refine WL.run (d := 6) (by rfl) (by rfl) ?_
    refine WL.callp hs (by rfl) (Yc.func (by rfl) fn86) (c_spec_IsCache _ _ ⟨(Ph.old h_n.cache.entries hs)⟩ (by show ∀ e ∈ (PCache.lg _).entries, _; exact cache_pol hbc)) ?_
    clear hs; intro w hs
    refine WL.p (by rfl) (Yl.pickT (by rfl) (by rfl)) ?_
    refine WL.p (by rfl) (Yl.move (by rfl)) ?_
    refine WL.split (d := 11) (by rfl) (fun h2 => ?_) (fun h2 => ?_)
    ·
      refine WL.run (d := 11) (by rfl) (by rfl) ?_
      refine WL.p (by rfl) (Yl.fieldAddr fa39_2 (by rfl)) ?_
      refine WL.run (d := 11) (by rfl) (by rfl) ?_
      refine WL.p (by rfl) (Yl.loadB sca37 (by rfl) hs (by repeat (first | exact List.mem_cons_self | apply List.mem_cons_of_mem)) (by rfl)) ?_
      refine WL.run (d := 11) (by rfl) (by rfl) ?_
      refine WL.p (by rfl) (Yl.len_sl slu37 (by rfl)) ?_
      refine WL.run (d := 11) (by rfl) (by rfl) ?_
      refine WL.p (by rfl) (Yl.leq (by rfl) (by rfl)) ?_
      refine WL.p (by rfl) (Yl.pickT (by rfl) (by rfl)) ?_
      refine WL.p (by rfl) (Yl.move (by rfl)) ?_
      refine WL.split (d := 17) (by rfl) (fun h3 => ?_) (fun h3 => ?_)
      ·
        replace h3 := of_decide_eq_true h3
        refine WL.run (d := 17) (by rfl) (by rfl) ?_
        refine WL.p (by rfl) (Yl.fieldAddr fa39_3 (by rfl)) ?_
        refine WL.run (d := 17) (by rfl) (by rfl) ?_
        refine WL.p (by rfl) (Yl.loadB sca3 (by rfl) hs (by repeat (first | exact List.mem_cons_self | apply List.mem_cons_of_mem)) (by rfl)) ?_
        refine WL.run (d := 17) (by rfl) (by rfl) ?_
        refine WL.callp hs (by rfl) (Yc.func (by rfl) fn87) (c_spec_l1In _ _ _ _) ?_
        clear hs; intro w hs
        refine WL.p (by rfl) (Yl.pickT (by rfl) (by rfl)) ?_
        refine WL.p (by rfl) (Yl.assign (by rfl)) ?_
        refine WL.next ?_
        refine WC.ret ?_
        refine fin1' rfl (by rfl) ?_
        refine RetP.mk hs ?_
        simp_all [netOk, inR]
        try omega
      ·
        replace h3 := of_decide_eq_false h3
        refine WL.skip (d := 17) (by rfl) (by rfl) (by rfl) (by rfl) ?_
        refine WL.skip (d := 17) (by rfl) (by rfl) (by rfl) (by rfl) ?_
        refine WL.skip (d := 17) (by rfl) (by rfl) (by rfl) (by rfl) ?_
        refine WL.p (by rfl) (Yl.pickF (by rfl) (by rfl)) ?_
        refine WL.p (by rfl) (Yl.assign (by rfl)) ?_
        refine WL.next ?_
        refine WC.ret ?_
        refine fin1' rfl (by rfl) ?_
        refine RetP.mk hs ?_
        simp_all [netOk, inR]
        try omega
    ·
      refine WL.skip (d := 11) (by rfl) (by rfl) (by rfl) (by rfl) ?_
      refine WL.skip (d := 11) (by rfl) (by rfl) (by rfl) (by rfl) ?_
      refine WL.skip (d := 11) (by rfl) (by rfl) (by rfl) (by rfl) ?_
      refine WL.skip (d := 11) (by rfl) (by rfl) (by rfl) (by rfl) ?_
      refine WL.p (by rfl) (Yl.pickF (by rfl) (by rfl)) ?_
      refine WL.p (by rfl) (Yl.move (by rfl)) ?_
      refine WL.skip (d := 17) (by rfl) (by rfl) (by rfl) (by rfl) ?_
      refine WL.skip (d := 17) (by rfl) (by rfl) (by rfl) (by rfl) ?_
      refine WL.skip (d := 17) (by rfl) (by rfl) (by rfl) (by rfl) ?_
      refine WL.p (by rfl) (Yl.pickF (by rfl) (by rfl)) ?_
      refine WL.p (by rfl) (Yl.assign (by rfl)) ?_
      refine WL.next ?_
      refine WC.ret ?_
      refine fin1' rfl (by rfl) ?_
      refine RetP.mk hs ?_
      simp_all [netOk, inR]
      try omega
  ·
    refine WL.skip (d := 6) (by rfl) (by rfl) (by rfl) (by rfl) ?_
    refine WL.skip (d := 6) (by rfl) (by rfl) (by rfl) (by rfl) ?_
    refine WL.skip (d := 6) (by rfl) (by rfl) (by rfl) (by rfl) ?_
    refine WL.p (by rfl) (Yl.pickF (by rfl) (by rfl)) ?_
    refine WL.p (by rfl) (Yl.move (by rfl)) ?_
    refine WL.skip (d := 11) (by rfl) (by rfl) (by rfl) (by rfl) ?_
    refine WL.skip (d := 11) (by rfl) (by rfl) (by rfl) (by rfl) ?_
    refine WL.skip (d := 11) (by rfl) (by rfl) (by rfl) (by rfl) ?_
    refine WL.skip (d := 11) (by rfl) (by rfl) (by rfl) (by rfl) ?_
    refine WL.p (by rfl) (Yl.pickF (by rfl) (by rfl)) ?_
    refine WL.p (by rfl) (Yl.move (by rfl)) ?_
    refine WL.skip (d := 17) (by rfl) (by rfl) (by rfl) (by rfl) ?_
    refine WL.skip (d := 17) (by rfl) (by rfl) (by rfl) (by rfl) ?_
    refine WL.skip (d := 17) (by rfl) (by rfl) (by rfl) (by rfl) ?_
    refine WL.p (by rfl) (Yl.pickF (by rfl) (by rfl)) ?_
    refine WL.p (by rfl) (Yl.assign (by rfl)) ?_
    refine WL.next ?_
    refine WC.ret ?_
    refine fin1' rfl (by rfl) ?_
    refine RetP.mk hs ?_
    simp_all [netOk, inR]
    try omega

theorem c_spec_l12Copy (l : (Sl PServer)) (w : World) (h_l : Ph.ok w l) (hb : lsz TServer.size (l.l.map PServer.lg) ≤ 1048576) : Calls Tryz.prog 134 [Sl.v l].toArray w (Ret w (fun v w' => ∃ x : Sl PServer, v = x.v ∧ x.l.map PServer.lg = l.l.map PServer.lg ∧ Fresh w x w')) := by
  have hw := h_l.lt
  have hbl : l.l.length ≤ 1048576 := by simp only [lsz, List.length_map] at hb; omega
  refine enterN 29 Tryz.func134 rfl rfl rfl ?_
  have hs := Sat.start w
  refine WC.seq ?_
  refine WL.p (by rfl) (Yl.assign (by rfl)) ?_
  refine WL.next ?_
  refine WC.seq ?_
  refine WL.r (by rfl) (Yr.buildSlice hs sll33 (by rfl) (by rfl) (by rfl) (by repeat (first | exact Fill.nil | (apply Fill.cons; rfl; rfl; rfl; repeat (first | (apply SetAt.here; repeat (first | exact Over.nil | apply Over.cons)) | apply SetAt.there)))) (by rfl)) ?_
  clear hs; rintro _ w ⟨b1, rfl, hb, hs⟩; clear hb
  refine WL.p (by rfl) (Yl.assign (by rfl)) ?_
  refine WL.next ?_
  refine WC.seq' ?_
  refine WC.seq ?_
  refine WL.p (by rfl) (Yl.assign (by rfl)) ?_
  refine WL.next ?_
  refine WC.block ?_
  replace hs := Sat.boxow (l := ([] : List PServer)) hs rfl rfl (by simp) rfl
  refine WC.loopC (ι := Nat × Sl PServer × List Nat) (fun ⟨k, q, F⟩ => l.l.length - k) (fun ⟨k, q, F⟩ => [(4, I (k : Int)), (3, q.v)]) (fun ⟨k, q, F⟩ => [ow q F]) (fun ⟨k, q, F⟩ => k ≤ l.l.length ∧ q.l.map PServer.lg = (l.l.take k).map PServer.lg) [(0, _), (2, _), (5, _)] (0, ⟨[], some ⟨b1, 0, none⟩, 0⟩, [b1]) (hs.sel (D := [ow (⟨[], some ⟨b1, 0, none⟩, 0⟩ : Sl PServer) [b1]]) (by repeat (first | exact Sel.nil | (apply Sel.cons; (repeat (first | exact Ext.here | apply Ext.there)))))) ⟨by rfl, by rfl, by rfl, trivial⟩ ⟨by rfl, by rfl, trivial⟩ ?_ ?_
  ·
    exact ⟨Nat.zero_le _, rfl⟩
  clear hs; rintro ⟨k, q, F⟩ w ⟨hJ1, hJ2⟩ hs
  simp only [List.cons_append, List.nil_append] at hs
  refine WC.seq' ?_
  refine WC.seq ?_
  refine WL.p (by rfl) (Yl.move (by rfl)) ?_
  refine WL.p (by rfl) (Yl.move (by rfl)) ?_
  refine WL.p (by rfl) (Yl.len_sl slu33 (by rfl)) ?_
  refine WL.p (by rfl) (Yl.lss (by rfl) (by rfl)) ?_
  refine WL.next ?_
  refine WC.condS (by rfl) (fun h1 => ?_) (fun h1 => ?_)
  ·
    replace h1 := of_decide_eq_true h1
    obtain ⟨d, hd⟩ := exists_get (l := l.l) (k := k) (by omega)
    have hql : q.l.length = k := by have := congrArg List.length hJ2; simp at this; omega
    have hdl := lsum_le (f := fun d : PServer => d.lg.size) (List.mem_of_getElem? hd)
    have hdf : d.files.l.length ≤ 1048576 := by rw [lsz_map] at hb; simp only [lsz, TServer.size] at hb hdl; omega
    refine WC.skipn ?_
    refine WC.seq' ?_
    refine WC.block ?_
    refine WC.anyX (K := [ow q F]) mixed hs (by repeat (first | exact Sel.nil | (apply Sel.cons; (repeat (first | exact Ext.here | apply Ext.there))))) ?_
    clear hs; intro w hs
    refine WA.p (i := 0) (by rfl) (by kernel_rfl) (by kernel_rfl) (by kernel_rfl) (by rfl) (hs.only (by repeat (first | exact Sel.nil | (apply Sel.cons; (repeat (first | exact Ext.here | apply Ext.there)))))) (fun w hs => Yl.move (by rfl)) ?_
    refine WA.p (i := 1) (by rfl) (by kernel_rfl) (by kernel_rfl) (by kernel_rfl) (by rfl) (hs.only (by repeat (first | exact Sel.nil | (apply Sel.cons; (repeat (first | exact Ext.here | apply Ext.there)))))) (fun w hs => Yl.move (by rfl)) ?_
    refine WA.p (i := 2) (by rfl) (by kernel_rfl) (by kernel_rfl) (by kernel_rfl) (by rfl) (hs.only (by repeat (first | exact Sel.nil | (apply Sel.cons; (repeat (first | exact Ext.here | apply Ext.there)))))) (fun w hs => Yl.move (by rfl)) ?_
    refine WA.p (i := 3) (by rfl) (by kernel_rfl) (by kernel_rfl) (by kernel_rfl) (by rfl) (hs.only (by repeat (first | exact Sel.nil | (apply Sel.cons; (repeat (first | exact Ext.here | apply Ext.there)))))) (fun w hs => Yl.indexAddr slt33 (by rfl) (by rfl) (Ph.old h_l hs) (by rfl) (hd)) ?_
    refine WA.p (i := 4) (by rfl) (by kernel_rfl) (by kernel_rfl) (by kernel_rfl) (by rfl) (hs.only (by repeat (first | exact Sel.nil | (apply Sel.cons; (repeat (first | exact Ext.here | apply Ext.there)))))) (fun w hs => Yl.fieldAddr fa185_0 (by rfl)) ?_
    refine WA.p (i := 5) (by rfl) (by kernel_rfl) (by kernel_rfl) (by kernel_rfl) (by rfl) (hs.only (by repeat (first | exact Sel.nil | (apply Sel.cons; (repeat (first | exact Ext.here | apply Ext.there)))))) (fun w hs => Yl.loadC sca9 (by rfl) (Sl.Ok.at_ (Ph.old h_l hs) (by assumption)).2 (by rfl)) ?_
    refine WA.p (i := 7) (by rfl) (by kernel_rfl) (by kernel_rfl) (by kernel_rfl) (by rfl) (hs.only (by repeat (first | exact Sel.nil | (apply Sel.cons; (repeat (first | exact Ext.here | apply Ext.there)))))) (fun w hs => Yl.move (by rfl)) ?_
    refine WA.p (i := 8) (by rfl) (by kernel_rfl) (by kernel_rfl) (by kernel_rfl) (by rfl) (hs.only (by repeat (first | exact Sel.nil | (apply Sel.cons; (repeat (first | exact Ext.here | apply Ext.there)))))) (fun w hs => Yl.move (by rfl)) ?_
    refine WA.p (i := 9) (by rfl) (by kernel_rfl) (by kernel_rfl) (by kernel_rfl) (by rfl) (hs.only (by repeat (first | exact Sel.nil | (apply Sel.cons; (repeat (first | exact Ext.here | apply Ext.there)))))) (fun w hs => Yl.indexAddr slt33 (by rfl) (by rfl) (Ph.old h_l hs) (by rfl) (hd)) ?_
    refine WA.p (i := 10) (by rfl) (by kernel_rfl) (by kernel_rfl) (by kernel_rfl) (by rfl) (hs.only (by repeat (first | exact Sel.nil | (apply Sel.cons; (repeat (first | exact Ext.here | apply Ext.there)))))) (fun w hs => Yl.fieldAddr fa185_1 (by rfl)) ?_
    refine WA.p (i := 11) (by rfl) (by kernel_rfl) (by kernel_rfl) (by kernel_rfl) (by rfl) (hs.only (by repeat (first | exact Sel.nil | (apply Sel.cons; (repeat (first | exact Ext.here | apply Ext.there)))))) (fun w hs => Yl.loadC sca183 (by rfl) (Sl.Ok.at_ (Ph.old h_l hs) (by assumption)).2 (by rfl)) ?_
    refine WA.r (i := 6) (by kernel_rfl) (by rfl) (by rfl) (Yr.buildSlice hs sll183 (by rfl) (by rfl) (by rfl) (by repeat (first | exact Fill.nil | (apply Fill.cons; rfl; rfl; rfl; repeat (first | (apply SetAt.here; repeat (first | exact Over.nil | apply Over.cons)) | apply SetAt.there)))) (by rfl)) (by rintro _ w ⟨b2, rfl, hb, hs⟩; exact hs.only (by repeat (first | exact Sel.nil | (apply Sel.cons; (repeat (first | exact Ext.here | apply Ext.there)))))) ?_
    clear hs; rintro _ w ⟨b2, rfl, hb, hs⟩; clear hb
    replace hs := (Sat.boxow (l := ([] : List TFile)) (hs.sel (D := [box b2 _ _]) (by repeat (first | exact Sel.nil | (apply Sel.cons; (repeat (first | exact Ext.here | apply Ext.there)))))) rfl rfl (by simp [maxLen]) (ownL_mk_flat (by simp)))
    refine WA.r (i := 12) (by kernel_rfl) (by rfl) (by rfl) (Yr.appendS (s := (⟨[], some ⟨b2, 0, none⟩, _⟩ : Sl TFile)) (F := [b2]) (r := d.files) hs elt183 (by repeat (first | exact Sel.nil | (apply Sel.cons; (repeat (first | exact Ext.here | apply Ext.there))))) (by rfl) (by rfl) (Ph.old (Sl.Ok.elem h_l hd).files hs) (by first | (rw [hql]; unfold maxLen; omega) | (simp; unfold maxLen; omega)) (by first | (rw [hql]; omega) | (simp; omega))) (by rintro _ w ⟨s3, F3, rfl, hl3, hs⟩; exact hs.only (by repeat (first | exact Sel.nil | (apply Sel.cons; (repeat (first | exact Ext.here | apply Ext.there)))))) ?_
    clear hs; rintro _ w ⟨s3, F3, rfl, hl3, hs⟩
    refine WA.p (i := 13) (by rfl) (by kernel_rfl) (by kernel_rfl) (by kernel_rfl) (by rfl) (hs.only (by repeat (first | exact Sel.nil | (apply Sel.cons; (repeat (first | exact Ext.here | apply Ext.there)))))) (fun w hs => Yl.build bt185 (by rfl) (by repeat (first | exact Fill.nil | (apply Fill.cons; rfl; rfl; rfl; repeat (first | (apply SetAt.here; repeat (first | exact Over.nil | apply Over.cons)) | apply SetAt.there))))) ?_
    refine WA.r (i := 14) (by kernel_rfl) (by rfl) (by rfl) (Yr.buildSlice hs sll33 (by rfl) (by rfl) (by rfl) (by repeat (first | exact Fill.nil | (apply Fill.cons; rfl; rfl; rfl; repeat (first | (apply SetAt.here; repeat (first | exact Over.nil | apply Over.cons)) | apply SetAt.there)))) (by rfl)) (by rintro _ w ⟨b4, rfl, hb, hs⟩; exact hs.only (by repeat (first | exact Sel.nil | (apply Sel.cons; (repeat (first | exact Ext.here | apply Ext.there)))))) ?_
    clear hs; rintro _ w ⟨b4, rfl, hb, hs⟩; clear hb
    replace hs := PServer.join (⟨d.host, s3⟩ : PServer) (hs.sel (D := [ow s3 F3]) (by repeat (first | exact Sel.nil | (apply Sel.cons; (repeat (first | exact Ext.here | apply Ext.there)))))) (by first | exact (Ph.old (Sl.Ok.elem h_l hd).host hs) | (refine Ph.old ?_ hs; assumption))
    try simp only [List.cons_append, List.nil_append] at hs
    refine WA.r (i := 15) (by kernel_rfl) (by rfl) (by rfl) (Yr.appendE (s := q) (F := F) (u := (⟨d.host, s3⟩ : PServer)) (G := F3) hs elt33 (by repeat (first | exact Sel.nil | (apply Sel.cons; (repeat (first | exact Ext.here | apply Ext.there))))) (by rfl) (by rfl) (hs.box_cells (by repeat (first | exact List.mem_cons_self | apply List.mem_cons_of_mem))) (by first | (rw [hql]; unfold maxLen; omega) | (simp; unfold maxLen; omega)) (by first | (rw [hql]; omega) | (simp; omega))) (by rintro _ w ⟨s5, F5, rfl, hl5, hs⟩; exact hs.only (by repeat (first | exact Sel.nil | (apply Sel.cons; (repeat (first | exact Ext.here | apply Ext.there)))))) ?_
    clear hs; rintro _ w ⟨s5, F5, rfl, hl5, hs⟩
    refine WA.p (i := 16) (by rfl) (by kernel_rfl) (by kernel_rfl) (by kernel_rfl) (by rfl) (hs.only (by repeat (first | exact Sel.nil | (apply Sel.cons; (repeat (first | exact Ext.here | apply Ext.there)))))) (fun w hs => Yl.assign (by rfl)) ?_
    refine WA.done (by kernel_rfl) ?_
    refine At.blocknormal ?_
    refine At.then_ ?_
    refine WC.region ?_
    refine WL.p (by rfl) (Yl.move (by rfl)) ?_
    refine WL.p (by rfl) (Yl.add (by rfl) (by rfl) (by omega)) ?_
    refine WL.p (by rfl) (Yl.assign (by rfl)) ?_
    refine WL.nil ?_
    refine At.roundC (k + 1, s5, F5) (hs.only (by repeat (first | exact Sel.nil | (apply Sel.cons; (repeat (first | exact Ext.here | apply Ext.there)))))) ⟨by rfl, by rfl, by rfl, trivial⟩ ⟨by rfl, by rfl, trivial⟩ ?_ ?_
    ·
      show l.l.length - (k + 1) < l.l.length - k
      omega
    ·
      exact ⟨by omega, by rw [hl5, List.map_append, hJ2, List.take_add_one, hd]; simp [PServer.lg, *]⟩
  ·
    replace h1 := of_decide_eq_false h1
    refine WC.exit ?_
    refine At.thenexit ?_
    refine At.thenexit ?_
    refine At.blockexit ?_
    refine At.then_ ?_
    refine WC.seq ?_
    refine WL.p (by rfl) (Yl.move (by rfl)) ?_
    refine WL.p (by rfl) (Yl.assign (by rfl)) ?_
    refine WL.next ?_
    refine WC.ret ?_
    refine fin1' rfl (by rfl) ?_
    refine Ret.mk hs ?_
    exact ⟨q, rfl, by rw [hJ2, show k = l.l.length from by omega, List.take_length], hs.fresh (by repeat (first | exact List.mem_cons_self | apply List.mem_cons_of_mem))⟩

theorem c_spec_l13Copy (c : PCache) (w : World) (h_c : Ph.ok w c) (hb : c.lg.size ≤ 1048576) : Calls Tryz.prog 135 [.agg #[Sl.v c.entries]].toArray w (Ret w (fun v w' => ∃ x : PCache, v = .agg (Ph.enc x).toArray ∧ x.lg = c.lg ∧ Fresh w x w')) := by
  have hw := h_c.entries.lt
  refine enterN 8 Tryz.func135 rfl rfl rfl ?_
  have hs := Sat.start w
  refine WC.seq ?_
  refine WL.r (by rfl) (Yr.box hs (by rfl) (by rfl)) ?_
  clear hs; rintro _ w ⟨b1, rfl, hb, hs⟩; clear hb
  refine WL.r (by rfl) (Yr.alloc hs zt36) ?_
  clear hs; rintro _ w ⟨b2, rfl, hb, hs⟩; clear hb
  refine WL.next ?_
  refine WC.seq ?_
  refine WL.r (by rfl) (Yr.buildSlice hs sll34 (by rfl) (by rfl) (by rfl) (by repeat (first | exact Fill.nil | (apply Fill.cons; rfl; rfl; rfl; repeat (first | (apply SetAt.here; repeat (first | exact Over.nil | apply Over.cons)) | apply SetAt.there)))) (by rfl)) ?_
  clear hs; rintro _ w ⟨b3, rfl, hb, hs⟩; clear hb
  refine WL.p (by rfl) (Yl.fieldAddr fa36_0 (by rfl)) ?_
  refine WL.p (by rfl) (Yl.loadB sca34 (by rfl) hs (by repeat (first | exact List.mem_cons_self | apply List.mem_cons_of_mem)) (by rfl)) ?_
  replace hs := (Sat.boxow (l := ([] : List TEntry)) (hs.sel (D := [box b3 _ _]) (by repeat (first | exact Sel.nil | (apply Sel.cons; (repeat (first | exact Ext.here | apply Ext.there)))))) rfl rfl (by simp [maxLen]) (ownL_mk_flat (by simp)))
  refine WL.r (by rfl) (Yr.appendS (s := (⟨[], some ⟨b3, 0, none⟩, _⟩ : Sl TEntry)) (F := [b3]) (r := c.entries) hs elt34 (by repeat (first | exact Sel.nil | (apply Sel.cons; (repeat (first | exact Ext.here | apply Ext.there))))) (by rfl) (by rfl) (Ph.old h_c.entries hs) (by simp; unfold maxLen; omega) (by simp only [TCache.size, lsz] at hb; simp; omega)) ?_
  clear hs; rintro _ w ⟨s4, F4, rfl, hl4, hs⟩
  refine WL.p (by rfl) (Yl.build bt36 (by rfl) (by repeat (first | exact Fill.nil | (apply Fill.cons; rfl; rfl; rfl; repeat (first | (apply SetAt.here; repeat (first | exact Over.nil | apply Over.cons)) | apply SetAt.there))))) ?_
  refine WL.s (Yr.storeB hs (by rfl) (by rfl) (by rfl) (by repeat (first | exact Repl.here | apply Repl.there)) (by repeat (first | (apply SetAt.here; repeat (first | exact Over.nil | apply Over.cons)) | apply SetAt.there)) (by rfl) (by exact szf36)) ?_
  clear hs; rintro _ w hs
  refine WL.next ?_
  refine WC.ret ?_
  refine fin1c rfl agg36 (by rfl) hs (by repeat (first | exact List.mem_cons_self | apply List.mem_cons_of_mem)) (by rfl) ?_
  refine Ret.mk hs ?_
  refine ⟨⟨s4⟩, rfl, ?_, ?_⟩
  · simp_all
  · exact (PCache.join _ (hs.only (D := [ow s4 F4]) (by repeat (first | exact Sel.nil | (apply Sel.cons; (repeat (first | exact Ext.here | apply Ext.there)))))) ).fresh List.mem_cons_self

theorem c_spec_l14Copy (n : PNet) (w : World) (h_n : Ph.ok w n) (hbs : lsz TServer.size n.lg.servers ≤ 1048576) (hbc : n.lg.cache.size ≤ 1048576) (hbl : n.log.l.length ≤ 1048577) : Calls Tryz.prog 63 [.agg #[Sl.v n.servers, Sl.v n.cache.entries, Sl.v n.log, I n.now]].toArray w (Ret w (fun v w' => ∃ x : PNet, v = .agg (Ph.enc x).toArray ∧ x.lg = n.lg ∧ Fresh w x w')) := by
  refine enterN 16 Tryz.func63 rfl rfl rfl ?_
  have hs := Sat.start w
  refine WC.seq ?_
  refine WL.r (by rfl) (Yr.box hs (by rfl) (by rfl)) ?_
  clear hs; rintro _ w ⟨b1, rfl, hb, hs⟩; clear hb
  refine WL.r (by rfl) (Yr.alloc hs zt39) ?_
  clear hs; rintro _ w ⟨b2, rfl, hb, hs⟩; clear hb
  refine WL.next ?_
  refine WC.anyn2 (c := box b2 _ _) mixed hs (by repeat (first | exact Ext.here | apply Ext.there)) ?_
  clear hs; intro w hs
  refine WA.p (i := 0) (by rfl) (by kernel_rfl) (by kernel_rfl) (by kernel_rfl) (by rfl) (hs.only (by repeat (first | exact Sel.nil | (apply Sel.cons; (repeat (first | exact Ext.here | apply Ext.there)))))) (fun w hs => Yl.fieldAddr fa39_0 (by rfl)) ?_
  refine WA.p (i := 1) (by rfl) (by kernel_rfl) (by kernel_rfl) (by kernel_rfl) (by rfl) (hs.only (by repeat (first | exact Sel.nil | (apply Sel.cons; (repeat (first | exact Ext.here | apply Ext.there)))))) (fun w hs => Yl.loadB sca33 (by rfl) hs (by repeat (first | exact List.mem_cons_self | apply List.mem_cons_of_mem)) (by rfl)) ?_
  refine WA.p (i := 3) (by rfl) (by kernel_rfl) (by kernel_rfl) (by kernel_rfl) (by rfl) (hs.only (by repeat (first | exact Sel.nil | (apply Sel.cons; (repeat (first | exact Ext.here | apply Ext.there)))))) (fun w hs => Yl.fieldAddr fa39_1 (by rfl)) ?_
  refine WA.p (i := 4) (by rfl) (by kernel_rfl) (by kernel_rfl) (by kernel_rfl) (by rfl) (hs.only (by repeat (first | exact Sel.nil | (apply Sel.cons; (repeat (first | exact Ext.here | apply Ext.there)))))) (fun w hs => Yl.loadAB agg36 (by rfl) hs (by repeat (first | exact List.mem_cons_self | apply List.mem_cons_of_mem)) (by rfl) (by rfl)) ?_
  refine WA.p (i := 7) (by rfl) (by kernel_rfl) (by kernel_rfl) (by kernel_rfl) (by rfl) (hs.only (by repeat (first | exact Sel.nil | (apply Sel.cons; (repeat (first | exact Ext.here | apply Ext.there)))))) (fun w hs => Yl.fieldAddr fa39_2 (by rfl)) ?_
  refine WA.p (i := 8) (by rfl) (by kernel_rfl) (by kernel_rfl) (by kernel_rfl) (by rfl) (hs.only (by repeat (first | exact Sel.nil | (apply Sel.cons; (repeat (first | exact Ext.here | apply Ext.there)))))) (fun w hs => Yl.loadB sca37 (by rfl) hs (by repeat (first | exact List.mem_cons_self | apply List.mem_cons_of_mem)) (by rfl)) ?_
  refine WA.p (i := 10) (by rfl) (by kernel_rfl) (by kernel_rfl) (by kernel_rfl) (by rfl) (hs.only (by repeat (first | exact Sel.nil | (apply Sel.cons; (repeat (first | exact Ext.here | apply Ext.there)))))) (fun w hs => Yl.fieldAddr fa39_3 (by rfl)) ?_
  refine WA.p (i := 11) (by rfl) (by kernel_rfl) (by kernel_rfl) (by kernel_rfl) (by rfl) (hs.only (by repeat (first | exact Sel.nil | (apply Sel.cons; (repeat (first | exact Ext.here | apply Ext.there)))))) (fun w hs => Yl.loadB sca3 (by rfl) hs (by repeat (first | exact List.mem_cons_self | apply List.mem_cons_of_mem)) (by rfl)) ?_
  refine WA.dag' [(⟨2, 5, [], (fun _ v cs => ∃ (x : Sl PServer) (F : List Nat), v = x.v ∧ cs = [ow x F] ∧ x.l.map PServer.lg = n.servers.l.map PServer.lg)⟩, []), (⟨5, 8, [], (fun _ v cs => ∃ (x : PCache) (F : List Nat), v = .agg (Ph.enc x).toArray ∧ cs = [ow x F] ∧ x.lg = n.cache.lg)⟩, [(0, false)]), (⟨6, 9, [], (fun _ v cs => ∃ b, v = .slice (some ⟨b, 0, none⟩) 0 0 ∧ cs = [box b 123 ([])])⟩, [])] [false, false, false] [(0, _), (1, _), (2, _), (3, _), (4, _), (6, _), (7, _), (10, _), (11, _), (13, _), (14, _)] ⟨by rfl, by rfl, by rfl, by rfl, by rfl, by rfl, by rfl, by rfl, by rfl, by rfl, by rfl, trivial⟩ (by rfl) (by kernel_rfl) (by kernel_rfl) (by kernel_rfl) (by kernel_rfl) (by kernel_rfl) (by kernel_rfl) (by kernel_rfl) (by kernel_rfl) (fun _ hs => hs.only (by repeat (first | exact Sel.nil | (apply Sel.cons; (repeat (first | exact Ext.here | apply Ext.there)))))) hs (fuel := 3) ⟨⟨local_const, ?_⟩, ⟨local_const, ?_⟩, ⟨local_const, ?_⟩, trivial⟩ ?_
  ·
    clear hs
    intro w R hs
    simp only [List.cons_append, List.nil_append] at hs
    refine Gives.c' (by rfl) (Yc.func (by rfl) fn134) (c_spec_l12Copy _ _ (Ph.old h_n.servers hs) (by exact hbs)) ?_
    rintro _ w1 ⟨_, rfl, hb, x, rfl, hx, hf⟩
    obtain ⟨F, hs1⟩ := hf.sat hs hb
    exact ⟨_, rfl, [ow x F], ⟨x, F, rfl, rfl, by exact hx⟩, hs1⟩
  ·
    clear hs
    rintro _ _ ⟨x3, F3, rfl, rfl, hx3⟩
    intro w R hs
    simp only [List.cons_append, List.nil_append] at hs
    refine Gives.c' (by rfl) (Yc.func (by rfl) fn135) (c_spec_l13Copy _ _ ⟨(Ph.old h_n.cache.entries hs)⟩ (by exact hbc)) ?_
    rintro _ w1 ⟨_, rfl, hb, x, rfl, hx, hf⟩
    obtain ⟨F, hs1⟩ := hf.sat hs hb
    exact ⟨_, rfl, [ow x F], ⟨x, F, rfl, rfl, by first | exact hx | (simp only [hx3] at hx; exact hx)⟩, hs1⟩
  ·
    clear hs
    intro w R hs
    simp only [List.cons_append, List.nil_append] at hs
    exact Gives.rr' (by rfl) (Yr.buildSlice hs sll37 (by rfl) (by rfl) (by rfl) (by repeat (first | exact Fill.nil | (apply Fill.cons; rfl; rfl; rfl; repeat (first | (apply SetAt.here; repeat (first | exact Over.nil | apply Over.cons)) | apply SetAt.there)))) (by rfl)) (fun _ _ ⟨b, hv, _, hs1⟩ => ⟨[box b 123 ([])], ⟨b, hv, rfl⟩, hs1⟩)
  clear hs
  rintro _ _ ⟨x3, F3, rfl, rfl, hx3⟩
  rintro _ _ ⟨x4, F4, rfl, rfl, hx4⟩
  rintro _ _ ⟨b5, rfl, rfl⟩
  intro w hs
  simp only [List.cons_append, List.nil_append, cond_true, cond_false] at hs
  replace hs := (Sat.boxow (l := ([] : List TSent)) (hs.sel (D := [box b5 _ _]) (by repeat (first | exact Sel.nil | (apply Sel.cons; (repeat (first | exact Ext.here | apply Ext.there)))))) rfl rfl (by simp [maxLen]) (ownL_mk_flat (by simp)))
  refine WA.r (i := 9) (by kernel_rfl) (by rfl) (by rfl) (Yr.appendS (s := (⟨[], some ⟨b5, 0, none⟩, _⟩ : Sl TSent)) (F := [b5]) (r := n.log) hs elt37 (by repeat (first | exact Sel.nil | (apply Sel.cons; (repeat (first | exact Ext.here | apply Ext.there))))) (by rfl) (by rfl) (Ph.old h_n.log hs) (by simp; unfold maxLen; omega) (by simp; omega)) (by rintro _ w ⟨s6, F6, rfl, hl6, hs⟩; exact hs.only (by repeat (first | exact Sel.nil | (apply Sel.cons; (repeat (first | exact Ext.here | apply Ext.there)))))) ?_
  clear hs; rintro _ w ⟨s6, F6, rfl, hl6, hs⟩
  refine WA.p (i := 12) (by rfl) (by kernel_rfl) (by kernel_rfl) (by kernel_rfl) (by rfl) (hs.only (by repeat (first | exact Sel.nil | (apply Sel.cons; (repeat (first | exact Ext.here | apply Ext.there)))))) (fun w hs => Yl.build bt39 (by rfl) (by repeat (first | exact Fill.nil | (apply Fill.cons; rfl; rfl; rfl; repeat (first | (apply SetAt.here; repeat (first | exact Over.nil | apply Over.cons)) | apply SetAt.there))))) ?_
  refine WA.s (i := 13) (by kernel_rfl) (by rfl) (Yr.storeB hs (by rfl) (by rfl) (by rfl) (by repeat (first | exact Repl.here | apply Repl.there)) (by repeat (first | (apply SetAt.here; repeat (first | exact Over.nil | apply Over.cons)) | apply SetAt.there)) (by rfl) (by exact szf39)) (by rintro _ w hs; exact hs.only (by repeat (first | exact Sel.nil | (apply Sel.cons; (repeat (first | exact Ext.here | apply Ext.there)))))) ?_
  clear hs; rintro _ w hs
  refine WA.donen (by kernel_rfl) ?_
  refine WC.ret ?_
  refine fin1c rfl agg39 (by rfl) hs (by repeat (first | exact List.mem_cons_self | apply List.mem_cons_of_mem)) (by rfl) ?_
  refine Ret.mk hs ?_
  refine ⟨⟨x3, x4, s6, _⟩, rfl, ?_, ?_⟩
  · simp_all
  · exact (PNet.join _ (hs.only (D := [ow x3 F3, ow x4 F4, ow s6 F6]) (by repeat (first | exact Sel.nil | (apply Sel.cons; (repeat (first | exact Ext.here | apply Ext.there)))))) (by first | exact Ph.old h_n.now hs | trivial | assumption | exact Nat.zero_le _)).fresh List.mem_cons_self

theorem c_spec_WaitNet (n : PNet) (ticks : Int) (w : World) (h_n : Ph.ok w n) (h_ticks : Ph.ok w ticks) (hbs : lsz TServer.size n.lg.servers ≤ 1048576) (hbc : n.lg.cache.size ≤ 1048576) (hbl : n.log.l.length ≤ 1048577) : Calls Tryz.prog 58 [.agg #[Sl.v n.servers, Sl.v n.cache.entries, Sl.v n.log, I n.now], I ticks].toArray w (Ret w (fun v w' => ∃ x : PNet, v = .agg (Ph.enc x).toArray ∧ x.lg = waitNet n.lg ticks ∧ Fresh w x w')) := by
  refine enterN 31 Tryz.func58 rfl rfl rfl ?_
  have hs := Sat.start w
  refine WC.seq ?_
  refine WL.r (by rfl) (Yr.box hs (by rfl) (by rfl)) ?_
  clear hs; rintro _ w ⟨b1, rfl, hb, hs⟩; clear hb
  refine WL.r (by rfl) (Yr.alloc hs zt39) ?_
  clear hs; rintro _ w ⟨b2, rfl, hb, hs⟩; clear hb
  refine WL.next ?_
  refine WC.seq ?_
  refine WL.p (by rfl) (Yl.loadAB agg39 (by rfl) hs (by repeat (first | exact List.mem_cons_self | apply List.mem_cons_of_mem)) (by rfl) (by rfl)) ?_
  refine WL.call hs (by rfl) (Yc.func (by rfl) fn63) (c_spec_l14Copy _ _ (Ph.old h_n hs) (by exact hbs) (by exact hbc) (by exact hbl)) ?_
  have hs0 := hs; clear hs; intro v w hb hR hs; clear hs
  obtain ⟨x3, rfl, hx3, hf3⟩ := hR
  obtain ⟨F3, hs⟩ := hf3.sat hs0 hb; clear hs0 hf3
  refine WL.r (by rfl) (Yr.alloc hs zt39) ?_
  clear hs; rintro _ w ⟨b4, rfl, hb, hs⟩; clear hb
  refine WL.s (Yr.storeB hs (by rfl) (by rfl) (by rfl) (by repeat (first | exact Repl.here | apply Repl.there)) (by repeat (first | (apply SetAt.here; repeat (first | exact Over.nil | apply Over.cons)) | apply SetAt.there)) (by rfl) (by exact szf39)) ?_
  clear hs; rintro _ w hs
  refine WL.next ?_
  refine WC.seq' ?_
  refine WC.seq ?_
  refine WL.p (by rfl) (Yl.move (by rfl)) ?_
  refine WL.callp hs (by rfl) (Yc.func (by rfl) fn87) (c_spec_l1In _ _ _ _) ?_
  clear hs; intro w hs
  refine WL.p (by rfl) (Yl.not (by rfl)) ?_
  refine WL.p (by rfl) (Yl.move (by rfl)) ?_
  refine WL.split (d := 11) (by rfl) (fun h1 => ?_) (fun h1 => ?_)
  ·
    replace h1 := not_eq_true h1
    replace h1 := inR_false.1 h1
    refine WL.skip (d := 11) (by rfl) (by rfl) (by rfl) (by rfl) ?_
    refine WL.skip (d := 11) (by rfl) (by rfl) (by rfl) (by rfl) ?_
    refine WL.skip (d := 11) (by rfl) (by rfl) (by rfl) (by rfl) ?_
    refine WL.p (by rfl) (Yl.pickT (by rfl) (by rfl)) ?_
    refine WL.p (by rfl) (Yl.move (by rfl)) ?_
    refine WL.skip (d := 16) (by rfl) (by rfl) (by rfl) (by rfl) ?_
    refine WL.skip (d := 16) (by rfl) (by rfl) (by rfl) (by rfl) ?_
    refine WL.skip (d := 16) (by rfl) (by rfl) (by rfl) (by rfl) ?_
    refine WL.skip (d := 16) (by rfl) (by rfl) (by rfl) (by rfl) ?_
    refine WL.skip (d := 16) (by rfl) (by rfl) (by rfl) (by rfl) ?_
    refine WL.skip (d := 16) (by rfl) (by rfl) (by rfl) (by rfl) ?_
    refine WL.p (by rfl) (Yl.pickT (by rfl) (by rfl)) ?_
    refine WL.next ?_
    refine WC.condT (by rfl) ?_
    refine WC.seq ?_
    refine WL.p (by rfl) (Yl.loadAB agg39 (by rfl) hs (by repeat (first | exact List.mem_cons_self | apply List.mem_cons_of_mem)) (by rfl) (by rfl)) ?_
    refine WL.s (Yr.storeB hs (by rfl) (by rfl) (by rfl) (by repeat (first | exact Repl.here | apply Repl.there)) (by repeat (first | (apply SetAt.here; repeat (first | exact Over.nil | apply Over.cons)) | apply SetAt.there)) (by rfl) (by exact szf39)) ?_
    clear hs; rintro _ w hs
    refine WL.next ?_
    refine WC.ret ?_
    refine At.thenret ?_
    refine fin1c rfl agg39 (by rfl) hs (by repeat (first | exact List.mem_cons_self | apply List.mem_cons_of_mem)) (by rfl) ?_
    refine Ret.mk hs ?_
    have hb9 : (inR ticks 0 1000 && (netOk n.lg && inR (n.lg.now + ticks) 0 999999998000)) = false := by
      clear hs
      try simp only [← inR_true] at *
      try simp only [← inR_false] at *
      simp_all
    have hq9 : waitNet n.lg ticks = n.lg := by unfold waitNet; rw [if_neg (by rw [hb9]; decide)]
    exact ⟨x3, rfl, hx3.trans hq9.symm, hs.fresh (by repeat (first | exact List.mem_cons_self | apply List.mem_cons_of_mem))⟩
  ·
    replace h1 := not_eq_false h1
    replace h1 := inR_true.1 h1
    refine WL.run (d := 11) (by rfl) (by rfl) ?_
    refine WL.p (by rfl) (Yl.loadAB agg39 (by rfl) hs (by repeat (first | exact List.mem_cons_self | apply List.mem_cons_of_mem)) (by rfl) (by rfl)) ?_
    refine WL.run (d := 11) (by rfl) (by rfl) ?_
    refine WL.callp hs (by rfl) (Yc.func (by rfl) fn21) (c_spec_IsNet _ _ (Ph.old h_n hs) (by first | exact hbs | exact Nat.le_trans (Nat.le_of_eq (congrArg (fun z => lsz TServer.size z.servers) hx3)) hbs) (by first | exact hbc | exact Nat.le_trans (Nat.le_of_eq (congrArg (fun z => z.cache.size) hx3)) hbc) (by first | exact hbl | (have e9 := congrArg (fun z => z.log.length) hx3; exact Nat.le_trans (Nat.le_of_eq e9) hbl))) ?_
    clear hs; intro w hs
    refine WL.run (d := 11) (by rfl) (by rfl) ?_
    refine WL.p (by rfl) (Yl.not (by rfl)) ?_
    refine WL.p (by rfl) (Yl.pickF (by rfl) (by rfl)) ?_
    refine WL.p (by rfl) (Yl.move (by rfl)) ?_
    refine WL.split (d := 16) (by rfl) (fun h2 => ?_) (fun h2 => ?_)
    ·
      replace h2 := not_eq_true h2
      refine WL.skip (d := 16) (by rfl) (by rfl) (by rfl) (by rfl) ?_
      refine WL.skip (d := 16) (by rfl) (by rfl) (by rfl) (by rfl) ?_
      refine WL.skip (d := 16) (by rfl) (by rfl) (by rfl) (by rfl) ?_
      refine WL.skip (d := 16) (by rfl) (by rfl) (by rfl) (by rfl) ?_
      refine WL.skip (d := 16) (by rfl) (by rfl) (by rfl) (by rfl) ?_
      refine WL.skip (d := 16) (by rfl) (by rfl) (by rfl) (by rfl) ?_
      refine WL.p (by rfl) (Yl.pickT (by rfl) (by rfl)) ?_
      refine WL.next ?_
      refine WC.condT (by rfl) ?_
      refine WC.seq ?_
      refine WL.p (by rfl) (Yl.loadAB agg39 (by rfl) hs (by repeat (first | exact List.mem_cons_self | apply List.mem_cons_of_mem)) (by rfl) (by rfl)) ?_
      refine WL.s (Yr.storeB hs (by rfl) (by rfl) (by rfl) (by repeat (first | exact Repl.here | apply Repl.there)) (by repeat (first | (apply SetAt.here; repeat (first | exact Over.nil | apply Over.cons)) | apply SetAt.there)) (by rfl) (by exact szf39)) ?_
      clear hs; rintro _ w hs
      refine WL.next ?_
      refine WC.ret ?_
      refine At.thenret ?_
      refine fin1c rfl agg39 (by rfl) hs (by repeat (first | exact List.mem_cons_self | apply List.mem_cons_of_mem)) (by rfl) ?_
      refine Ret.mk hs ?_
      have hb9 : (inR ticks 0 1000 && (netOk n.lg && inR (n.lg.now + ticks) 0 999999998000)) = false := by
        clear hs
        try simp only [← inR_true] at *
        try simp only [← inR_false] at *
        simp_all
      have hq9 : waitNet n.lg ticks = n.lg := by unfold waitNet; rw [if_neg (by rw [hb9]; decide)]
      exact ⟨x3, rfl, hx3.trans hq9.symm, hs.fresh (by repeat (first | exact List.mem_cons_self | apply List.mem_cons_of_mem))⟩
    ·
      replace h2 := not_eq_false h2
      refine WL.run (d := 16) (by rfl) (by rfl) ?_
      refine WL.p (by rfl) (Yl.fieldAddr fa39_3 (by rfl)) ?_
      refine WL.run (d := 16) (by rfl) (by rfl) ?_
      refine WL.p (by rfl) (Yl.loadB sca3 (by rfl) hs (by repeat (first | exact List.mem_cons_self | apply List.mem_cons_of_mem)) (by rfl)) ?_
      refine WL.run (d := 16) (by rfl) (by rfl) ?_
      refine WL.p (by rfl) (Yl.move (by rfl)) ?_
      refine WL.run (d := 16) (by rfl) (by rfl) ?_
      refine WL.p (by rfl) (Yl.add (by rfl) (by rfl) (by first | omega | (rename_i q1 q2; omega) | (have h9 := h_n.now; simp_all [netOk, inR]; omega))) ?_
      refine WL.run (d := 16) (by rfl) (by rfl) ?_
      refine WL.callp hs (by rfl) (Yc.func (by rfl) fn87) (c_spec_l1In _ _ _ _) ?_
      clear hs; intro w hs
      refine WL.run (d := 16) (by rfl) (by rfl) ?_
      refine WL.p (by rfl) (Yl.not (by rfl)) ?_
      refine WL.p (by rfl) (Yl.pickF (by rfl) (by rfl)) ?_
      refine WL.next ?_
      refine WC.condS (by rfl) (fun h3 => ?_) (fun h3 => ?_)
      ·
        replace h3 := not_eq_true h3
        replace h3 := inR_false.1 h3
        refine WC.seq ?_
        refine WL.p (by rfl) (Yl.loadAB agg39 (by rfl) hs (by repeat (first | exact List.mem_cons_self | apply List.mem_cons_of_mem)) (by rfl) (by rfl)) ?_
        refine WL.s (Yr.storeB hs (by rfl) (by rfl) (by rfl) (by repeat (first | exact Repl.here | apply Repl.there)) (by repeat (first | (apply SetAt.here; repeat (first | exact Over.nil | apply Over.cons)) | apply SetAt.there)) (by rfl) (by exact szf39)) ?_
        clear hs; rintro _ w hs
        refine WL.next ?_
        refine WC.ret ?_
        refine At.thenret ?_
        refine fin1c rfl agg39 (by rfl) hs (by repeat (first | exact List.mem_cons_self | apply List.mem_cons_of_mem)) (by rfl) ?_
        refine Ret.mk hs ?_
        have hb9 : (inR ticks 0 1000 && (netOk n.lg && inR (n.lg.now + ticks) 0 999999998000)) = false := by
          clear hs
          try simp only [← inR_true] at *
          try simp only [← inR_false] at *
          simp_all
        have hq9 : waitNet n.lg ticks = n.lg := by unfold waitNet; rw [if_neg (by rw [hb9]; decide)]
        exact ⟨x3, rfl, hx3.trans hq9.symm, hs.fresh (by repeat (first | exact List.mem_cons_self | apply List.mem_cons_of_mem))⟩
      ·
        replace h3 := not_eq_false h3
        replace h3 := inR_true.1 h3
        refine WC.skipn ?_
        refine WC.seq ?_
        refine WL.p (by rfl) (Yl.fieldAddr fa39_3 (by rfl)) ?_
        refine WL.p (by rfl) (Yl.loadB sca3 (by rfl) hs (by repeat (first | exact List.mem_cons_self | apply List.mem_cons_of_mem)) (by rfl)) ?_
        refine WL.p (by rfl) (Yl.move (by rfl)) ?_
        refine WL.p (by rfl) (Yl.add (by rfl) (by rfl) (by first | omega | (rename_i q1 q2; omega) | (have h9 := h_n.now; simp_all [netOk, inR]; omega))) ?_
        refine WL.p (by rfl) (Yl.fieldAddr fa39_3 (by rfl)) ?_
        refine WL.s (Yr.storeB hs (by rfl) (by rfl) (by rfl) (by repeat (first | exact Repl.here | apply Repl.there)) (by repeat (first | (apply SetAt.here; repeat (first | exact Over.nil | apply Over.cons)) | apply SetAt.there)) (by rfl) (by exact szf3)) ?_
        clear hs; rintro _ w hs
        refine WL.next ?_
        refine WC.seq ?_
        refine WL.p (by rfl) (Yl.loadAB agg39 (by rfl) hs (by repeat (first | exact List.mem_cons_self | apply List.mem_cons_of_mem)) (by rfl) (by rfl)) ?_
        refine WL.s (Yr.storeB hs (by rfl) (by rfl) (by rfl) (by repeat (first | exact Repl.here | apply Repl.there)) (by repeat (first | (apply SetAt.here; repeat (first | exact Over.nil | apply Over.cons)) | apply SetAt.there)) (by rfl) (by exact szf39)) ?_
        clear hs; rintro _ w hs
        refine WL.next ?_
        refine WC.ret ?_
        refine fin1c rfl agg39 (by rfl) hs (by repeat (first | exact List.mem_cons_self | apply List.mem_cons_of_mem)) (by rfl) ?_
        obtain ⟨K5_0, K5_1, K5_2, hfl5, hs⟩ := PNet.split (hs.sel (D := [ow x3 F3]) (by repeat (first | exact Sel.nil | (apply Sel.cons; (repeat (first | exact Ext.here | apply Ext.there))))))
        try simp only [List.cons_append, List.nil_append] at hs
        refine Ret.mk hs ?_
        refine ⟨(⟨x3.servers, x3.cache, x3.log, (n.now + ticks)⟩ : PNet), rfl, ?_, ?_⟩
        · have e1_ := congrArg TNet.servers hx3; have e2_ := congrArg TNet.cache hx3; have e3_ := congrArg TNet.log hx3; have e4_ := congrArg TNet.now hx3
          have hb9 : (inR ticks 0 1000 && (netOk n.lg && inR (n.lg.now + ticks) 0 999999998000)) = true := by
            clear hs
            try simp only [← inR_true] at *
            simp_all
          unfold waitNet
          rw [if_pos hb9, ← e1_, ← e2_, ← e3_]
          try rfl
        · exact (PNet.join (⟨x3.servers, x3.cache, x3.log, (n.now + ticks)⟩ : PNet) (hs.only (D := [ow x3.servers K5_0, ow x3.cache K5_1, ow x3.log K5_2]) (by repeat (first | exact Sel.nil | (apply Sel.cons; (repeat (first | exact Ext.here | apply Ext.there)))))) (by first | exact (show WfI ((n.now + ticks)) from ⟨by omega, by omega⟩) | assumption | trivial)).fresh List.mem_cons_self

theorem c_slices_IndexFunc___impl_Server_impl_Server_ (s : (Sl PServer)) (f : FuncId) (us_f : List Value) (p_f : PServer → Bool) (w : World) (h_s : Ph.ok w s)  (hfn_f : FN Tryz.prog f) (hf_f : ∀ x ∈ s.l, ∀ w', Below w.heap.size w w' → Calls Tryz.prog f (([.agg (Ph.enc x).toArray] : List Value) ++ us_f).toArray w' (RetP w' (Bo (p_f x)))) : Calls Tryz.prog 182 [Sl.v s, .func (.func f) #[] us_f.toArray].toArray w (RetP w (I (idxF (p_f) s.l 0))) := by
  have hw := h_s.lt
  refine enterN 19 Tryz.func182 rfl rfl rfl ?_
  have hs := Sat.start w
  refine WC.seq ?_
  refine WL.p (by rfl) (Yl.assign (by rfl)) ?_
  refine WL.next ?_
  refine WC.seq' ?_
  refine WC.seq ?_
  refine WL.p (by rfl) (Yl.move (by rfl)) ?_
  refine WL.p (by rfl) (Yl.len_sl slu33 (by rfl)) ?_
  refine WL.p (by rfl) (Yl.move (by rfl)) ?_
  refine WL.next ?_
  refine WC.block ?_
  refine WC.loopC (ι := Nat) (fun k => s.l.length - k) (fun k => [(8, I (k : Int))]) (fun _ => []) (fun k => idxF (p_f) s.l 0 = idxF (p_f) (s.l.drop k) k) [(0, _), (1, _), (6, _), (7, _)] 0 (hs) ⟨by rfl, by rfl, by rfl, by rfl, trivial⟩ ⟨by rfl, trivial⟩ ?_ ?_
  ·
    simp
  clear hs; rintro k w hJ hs
  simp only [List.nil_append] at hs
  refine WC.seq ?_
  refine WL.p (by rfl) (Yl.lss (by rfl) (by rfl)) ?_
  refine WL.next ?_
  refine WC.seq' ?_
  refine WC.condS (by rfl) (fun h1 => ?_) (fun h1 => ?_)
  ·
    replace h1 := of_decide_eq_true h1
    obtain ⟨d, hd⟩ := exists_get (l := s.l) (k := k) (by omega)
    rw [drop_cons hd] at hJ
    refine WC.skipn ?_
    refine WC.seq' ?_
    refine WC.block ?_
    refine WC.seq ?_
    refine WL.p (by rfl) (Yl.move (by rfl)) ?_
    refine WL.p (by rfl) (Yl.assign (by rfl)) ?_
    refine WL.next ?_
    refine WC.seq ?_
    refine WL.p (by rfl) (Yl.move (by rfl)) ?_
    refine WL.p (by rfl) (Yl.move (by rfl)) ?_
    refine WL.p (by rfl) (Yl.move (by rfl)) ?_
    refine WL.p (by rfl) (Yl.indexAddr slt33 (by rfl) (by rfl) (Ph.old h_s hs) (by rfl) (hd)) ?_
    refine WL.p (by rfl) (Yl.loadA agg185 (by rfl) (Sl.Ok.at_ (Ph.old h_s hs) (by assumption)).2 (by rfl)) ?_
    refine WL.callp hs (by rfl) (Yc.value (by rfl) (by rfl) hfn_f (by rfl)) (hf_f _ (List.mem_of_getElem? (by assumption)) _ hs.below) ?_
    clear hs; intro w hs
    refine WL.next ?_
    refine WC.condS (by rfl) (fun h2 => ?_) (fun h2 => ?_)
    ·
      refine WC.seq ?_
      refine WL.p (by rfl) (Yl.move (by rfl)) ?_
      refine WL.p (by rfl) (Yl.assign (by rfl)) ?_
      refine WL.next ?_
      refine WC.ret ?_
      refine At.blockret ?_
      refine At.thenret ?_
      refine At.thenret ?_
      refine At.blockret ?_
      refine At.thenret ?_
      refine fin1' rfl (by rfl) ?_
      refine RetP.mk hs ?_
      rw [hJ]; simp_all [idxF]
    ·
      refine WC.skip ?_
      refine At.blocknormal ?_
      refine At.then_ ?_
      refine WC.region ?_
      refine WL.p (by rfl) (Yl.add (by rfl) (by rfl) (by omega)) ?_
      refine WL.p (by rfl) (Yl.move (by rfl)) ?_
      refine WL.nil ?_
      refine At.roundC (k + 1) (hs.only (by repeat (first | exact Sel.nil | (apply Sel.cons; (repeat (first | exact Ext.here | apply Ext.there)))))) ⟨by rfl, by rfl, by rfl, by rfl, trivial⟩ ⟨by rfl, trivial⟩ ?_ ?_
      ·
        omega
      ·
        rw [hJ]; simp_all [idxF]
  ·
    replace h1 := of_decide_eq_false h1
    rw [drop_out (l := s.l) (by omega)] at hJ
    refine WC.exit ?_
    refine At.thenexit ?_
    refine At.thenexit ?_
    refine At.blockexit ?_
    refine At.then_ ?_
    refine WC.seq ?_
    refine WL.p (by rfl) (Yl.assign (by rfl)) ?_
    refine WL.next ?_
    refine WC.ret ?_
    refine fin1' rfl (by rfl) ?_
    refine RetP.mk hs ?_
    rw [hJ]; simp_all [idxF]

theorem c_impl_serverAt_1 (s : PServer) (host : Str) (b1 : Nat) (w : World) (h_s : Ph.ok w s)  (hc1 : CellsAt w b1 0 [S host]) : Calls Tryz.prog 183 [.agg #[S s.host, Sl.v s.files], bp b1 0].toArray w (RetP w (Bo (decide (s.host = host)))) := by
  refine enterN 8 Tryz.func183 rfl rfl rfl ?_
  have hs := Sat.start w
  refine WC.seq ?_
  refine WL.r (by rfl) (Yr.box hs (by rfl) (by rfl)) ?_
  clear hs; rintro _ w ⟨b1, rfl, hb, hs⟩; clear hb
  refine WL.p (by rfl) (Yl.assign (by rfl)) ?_
  refine WL.next ?_
  refine WC.seq ?_
  refine WL.p (by rfl) (Yl.fieldAddr fa185_0 (by rfl)) ?_
  refine WL.p (by rfl) (Yl.loadB sca9 (by rfl) hs (by repeat (first | exact List.mem_cons_self | apply List.mem_cons_of_mem)) (by rfl)) ?_
  refine WL.p (by rfl) (Yl.loadC0 sca9 (by rfl) (hc1.ext hs.below) (by rfl)) ?_
  refine WL.p (by rfl) (Yl.eqs (by rfl) (by rfl)) ?_
  refine WL.p (by rfl) (Yl.assign (by rfl)) ?_
  refine WL.next ?_
  refine WC.ret ?_
  refine fin1' rfl (by rfl) ?_
  refine RetP.mk hs ?_
  rfl

theorem c_impl_serverAt (l : (Sl PServer)) (host : Str) (w : World) (h_l : Ph.ok w l)  : Calls Tryz.prog 145 [Sl.v l, S host].toArray w (RetP w (I (idxF (fun s : PServer => decide (s.host = host)) l.l 0))) := by
  have hw := h_l.lt
  refine enterN 8 Tryz.func145 rfl rfl rfl ?_
  have hs := Sat.start w
  refine WC.seq ?_
  refine WL.r (by rfl) (Yr.box hs (by rfl) (by rfl)) ?_
  clear hs; rintro _ w ⟨b1, rfl, hb, hs⟩; clear hb
  refine WL.p (by rfl) (Yl.assign (by rfl)) ?_
  refine WL.next ?_
  refine WC.seq ?_
  refine WL.p (by rfl) (Yl.move (by rfl)) ?_
  refine WL.p (by rfl) (Yl.makeFunc (by rfl) (by rfl)) ?_
  refine WL.callp hs (by rfl) (Yc.func (by rfl) fn182) (c_slices_IndexFunc___impl_Server_impl_Server_ _ 183 _ (fun s : PServer => decide (s.host = host)) _ (Ph.old h_l hs) fn183 (fun x hx w1 hb1 => c_impl_serverAt_1 x _ _ w1 (Ph.ext hb1 ((Ph.old h_l hs).elems x hx)) ((hs.ext hb1).box_cells (by repeat (first | exact List.mem_cons_self | apply List.mem_cons_of_mem))))) ?_
  clear hs; intro w hs
  refine WL.p (by rfl) (Yl.assign (by rfl)) ?_
  refine WL.next ?_
  refine WC.ret ?_
  refine fin1' rfl (by rfl) ?_
  refine RetP.mk hs ?_
  rfl

theorem c_impl_InRange (n : Int) (low : Int) (high : Int) (w : World)   : Calls Tryz.prog 90 [I n, I low, I high].toArray w (RetP w (Bo (inR n low high))) := by
  refine enterN 15 Tryz.func90 rfl rfl rfl ?_
  have hs := Sat.start w
  refine WC.seq ?_
  refine WL.p (by rfl) (Yl.assign (by rfl)) ?_
  refine WL.next ?_
  refine WC.seq ?_
  refine WL.p (by rfl) (Yl.move (by rfl)) ?_
  refine WL.p (by rfl) (Yl.move (by rfl)) ?_
  refine WL.p (by rfl) (Yl.leq (by rfl) (by rfl)) ?_
  refine WL.p (by rfl) (Yl.move (by rfl)) ?_
  refine WL.split (d := 10) (by rfl) (fun h1 => ?_) (fun h1 => ?_)
  ·
    replace h1 := of_decide_eq_true h1
    refine WL.run (d := 10) (by rfl) (by rfl) ?_
    refine WL.p (by rfl) (Yl.move (by rfl)) ?_
    refine WL.run (d := 10) (by rfl) (by rfl) ?_
    refine WL.p (by rfl) (Yl.move (by rfl)) ?_
    refine WL.run (d := 10) (by rfl) (by rfl) ?_
    refine WL.p (by rfl) (Yl.leq (by rfl) (by rfl)) ?_
    refine WL.p (by rfl) (Yl.pickT (by rfl) (by rfl)) ?_
    refine WL.p (by rfl) (Yl.assign (by rfl)) ?_
    refine WL.next ?_
    refine WC.ret ?_
    refine fin1' rfl (by rfl) ?_
    refine RetP.mk hs ?_
    simp [inR, h1]
  ·
    replace h1 := of_decide_eq_false h1
    refine WL.skip (d := 10) (by rfl) (by rfl) (by rfl) (by rfl) ?_
    refine WL.skip (d := 10) (by rfl) (by rfl) (by rfl) (by rfl) ?_
    refine WL.skip (d := 10) (by rfl) (by rfl) (by rfl) (by rfl) ?_
    refine WL.p (by rfl) (Yl.pickF (by rfl) (by rfl)) ?_
    refine WL.p (by rfl) (Yl.assign (by rfl)) ?_
    refine WL.next ?_
    refine WC.ret ?_
    refine fin1' rfl (by rfl) ?_
    refine RetP.mk hs ?_
    rw [inR_false.2 (by omega)]

end Go.Sw
