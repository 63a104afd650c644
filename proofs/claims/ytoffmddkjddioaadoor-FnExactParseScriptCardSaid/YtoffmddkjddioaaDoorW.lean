/- Walks: what each function of the program returns, for every input. Printed by gen.py. -/
import Derived.Test.YtoffmddkjddioaaDoorFx
set_option linter.all false
namespace Go.Sw
open Go Go.RowKit Go.Proofs

theorem c_spec_l5Split (s : Str) (b : UInt8) (w : World)  (hb : s.length ≤ 2097152) : Calls Tryd.prog 50 [S s, U8 b].toArray w (Ret w (fun v w' => ∃ x : Sl Str, v = x.v ∧ x.l = splitC b s ∧ Fresh w x w')) := by
  refine enterN 36 Tryd.func50 rfl rfl rfl ?_
  have hs := Sat.start w
  refine WC.seq ?_
  refine WL.p (by rfl) (Yl.assign (by rfl)) ?_
  refine WL.next ?_
  refine WC.seq ?_
  refine WL.r (by rfl) (Yr.buildSlice hs sll35 (by rfl) (by rfl) (by rfl) (by repeat (first | exact Fill.nil | (apply Fill.cons; rfl; rfl; rfl; repeat (first | (apply SetAt.here; repeat (first | exact Over.nil | apply Over.cons)) | apply SetAt.there)))) (by rfl)) ?_
  clear hs; rintro _ w ⟨b1, rfl, hb, hs⟩; clear hb
  refine WL.p (by rfl) (Yl.assign (by rfl)) ?_
  refine WL.next ?_
  refine WC.seq ?_
  refine WL.p (by rfl) (Yl.assign (by rfl)) ?_
  refine WL.next ?_
  refine WC.seq' ?_
  refine WC.seq ?_
  refine WL.p (by rfl) (Yl.assign (by rfl)) ?_
  refine WL.next ?_
  refine WC.block ?_
  replace hs := Sat.boxow (l := ([] : List Str)) hs rfl rfl (by simp) (ownL_mk_flat (by simp))
  refine WC.loopC (ι := Nat × Nat × Sl Str × List Nat) (fun ⟨k, f, q, F⟩ => s.length + 1 - k) (fun ⟨k, f, q, F⟩ => [(7, I (k : Int)), (6, I (f : Int)), (5, q.v)]) (fun ⟨k, f, q, F⟩ => [ow q F]) (fun ⟨k, f, q, F⟩ => (k ≤ s.length ∧ f ≤ k ∧ splitC b s = q.l ++ preH ((s.drop f).take (k - f)) (splitC b (s.drop k))) ∨ (k = s.length + 1 ∧ splitC b s = q.l)) [(0, _), (1, _), (4, _), (8, _)] (0, 0, ⟨[], some ⟨b1, 0, none⟩, 0⟩, [b1]) (hs.sel (D := [ow (⟨[], some ⟨b1, 0, none⟩, 0⟩ : Sl Str) [b1]]) (by repeat (first | exact Sel.nil | (apply Sel.cons; (repeat (first | exact Ext.here | apply Ext.there)))))) ⟨by rfl, by rfl, by rfl, by rfl, trivial⟩ ⟨by rfl, by rfl, by rfl, trivial⟩ ?_ ?_
  ·
    exact .inl ⟨Nat.zero_le _, Nat.le_refl _, by simp [preH_nil]⟩
  clear hs; rintro ⟨k, f, q, F⟩ w hJ hs
  simp only [List.cons_append, List.nil_append] at hs
  refine WC.seq' ?_
  refine WC.seq ?_
  refine WL.p (by rfl) (Yl.move (by rfl)) ?_
  refine WL.p (by rfl) (Yl.move (by rfl)) ?_
  refine WL.p (by rfl) (Yl.len_str str9 (by rfl)) ?_
  refine WL.p (by rfl) (Yl.leq (by rfl) (by rfl)) ?_
  refine WL.next ?_
  refine WC.condS (by rfl) (fun h1 => ?_) (fun h1 => ?_)
  ·
    replace h1 := of_decide_eq_true h1
    obtain ⟨hJ1, hJ2, hJ3⟩ : k ≤ s.length ∧ f ≤ k ∧ splitC b s = q.l ++ preH ((s.drop f).take (k - f)) (splitC b (s.drop k)) := by
      rcases hJ with h | h
      · exact h
      · omega
    have hlq : q.l.length ≤ s.length + 1 := by
      have e1 := congrArg List.length hJ3
      have e2 := splitC_len b s
      simp only [List.length_append] at e1
      omega
    refine WC.skipn ?_
    refine WC.seq' ?_
    refine WC.block ?_
    refine WC.seq ?_
    refine WL.p (by rfl) (Yl.move (by rfl)) ?_
    refine WL.p (by rfl) (Yl.move (by rfl)) ?_
    refine WL.p (by rfl) (Yl.len_str str9 (by rfl)) ?_
    refine WL.p (by rfl) (Yl.eqi (by rfl) (by rfl)) ?_
    refine WL.p (by rfl) (Yl.move (by rfl)) ?_
    refine WL.split (d := 19) (by rfl) (fun h2 => ?_) (fun h2 => ?_)
    ·
      replace h2 := of_decide_eq_true h2
      refine WL.skip (d := 19) (by rfl) (by rfl) (by rfl) (by rfl) ?_
      refine WL.skip (d := 19) (by rfl) (by rfl) (by rfl) (by rfl) ?_
      refine WL.skip (d := 19) (by rfl) (by rfl) (by rfl) (by rfl) ?_
      refine WL.skip (d := 19) (by rfl) (by rfl) (by rfl) (by rfl) ?_
      refine WL.skip (d := 19) (by rfl) (by rfl) (by rfl) (by rfl) ?_
      refine WL.p (by rfl) (Yl.pickT (by rfl) (by rfl)) ?_
      refine WL.next ?_
      refine WC.condT (by rfl) ?_
      refine WC.seq ?_
      refine WL.p (by rfl) (Yl.move (by rfl)) ?_
      refine WL.p (by rfl) (Yl.move (by rfl)) ?_
      refine WL.p (by rfl) (Yl.move (by rfl)) ?_
      refine WL.p (by rfl) (Yl.move (by rfl)) ?_
      refine WL.p (by rfl) (Yl.slice_str str9 (by rfl) (by exact ⟨_, by rfl⟩) (by exact ⟨_, by rfl⟩) (by omega) (by omega)) ?_
      refine WL.r (by rfl) (Yr.buildSlice hs sll35 (by rfl) (by rfl) (by rfl) (by repeat (first | exact Fill.nil | (apply Fill.cons; rfl; rfl; rfl; repeat (first | (apply SetAt.here; repeat (first | exact Over.nil | apply Over.cons)) | apply SetAt.there)))) (by rfl)) ?_
      clear hs; rintro _ w ⟨b2, rfl, hb, hs⟩; clear hb
      refine WL.r (by rfl) (Yr.append (s := q) (F := F) hs elt35 (by repeat (first | exact Sel.nil | (apply Sel.cons; (repeat (first | exact Ext.here | apply Ext.there))))) (by rfl) (by rfl) rfl (xs := [(s.drop f).take (k - f)]) (hs.box_cells (by repeat (first | exact List.mem_cons_self | apply List.mem_cons_of_mem))) (by intro x hx; obtain rfl := List.mem_singleton.1 hx; show WfS _; unfold WfS; simp only [List.length_take, List.length_drop]; omega) (by simp; unfold maxLen; omega) (by simp; omega)) ?_
      clear hs; rintro _ w ⟨s3, F3, rfl, hl3, hs⟩
      refine WL.p (by rfl) (Yl.assign (by rfl)) ?_
      refine WL.next ?_
      refine WC.region ?_
      refine WL.p (by rfl) (Yl.move (by rfl)) ?_
      refine WL.p (by rfl) (Yl.add (by rfl) (by rfl) (by omega)) ?_
      refine WL.p (by rfl) (Yl.assign (by rfl)) ?_
      refine WL.nil ?_
      refine At.blocknormal ?_
      refine At.then_ ?_
      refine WC.region ?_
      refine WL.p (by rfl) (Yl.move (by rfl)) ?_
      refine WL.p (by rfl) (Yl.add (by rfl) (by rfl) (by omega)) ?_
      refine WL.p (by rfl) (Yl.assign (by rfl)) ?_
      refine WL.nil ?_
      refine At.roundC (k + 1, k + 1, s3, F3) (hs.only (by repeat (first | exact Sel.nil | (apply Sel.cons; (repeat (first | exact Ext.here | apply Ext.there)))))) ⟨by rfl, by rfl, by rfl, by rfl, trivial⟩ ⟨by rfl, by rfl, by rfl, trivial⟩ ?_ ?_
      ·
        show s.length + 1 - (k + 1) < s.length + 1 - k
        omega
      ·
        refine .inr ⟨by omega, ?_⟩
        rw [hl3, hJ3]
        obtain rfl : k = s.length := by omega
        rw [List.drop_length, preH_end]
    ·
      replace h2 := of_decide_eq_false h2
      refine WL.run (d := 19) (by rfl) (by rfl) ?_
      refine WL.p (by rfl) (Yl.move (by rfl)) ?_
      refine WL.run (d := 19) (by rfl) (by rfl) ?_
      refine WL.p (by rfl) (Yl.move (by rfl)) ?_
      refine WL.run (d := 19) (by rfl) (by rfl) ?_
      refine WL.p (by rfl) (Yl.index str9 (by rfl) (by rfl) (by rfl) (by first | assumption | exact List.getElem?_eq_getElem (by omega))) ?_
      refine WL.run (d := 19) (by rfl) (by rfl) ?_
      refine WL.p (by rfl) (Yl.move (by rfl)) ?_
      refine WL.run (d := 19) (by rfl) (by rfl) ?_
      refine WL.p (by rfl) (Yl.eqi (by rfl) (by rfl)) ?_
      refine WL.p (by rfl) (Yl.pickF (by rfl) (by rfl)) ?_
      refine WL.next ?_
      refine WC.condS (by rfl) (fun h3 => ?_) (fun h3 => ?_)
      ·
        replace h3 := of_decide_eq_true h3
        refine WC.seq ?_
        refine WL.p (by rfl) (Yl.move (by rfl)) ?_
        refine WL.p (by rfl) (Yl.move (by rfl)) ?_
        refine WL.p (by rfl) (Yl.move (by rfl)) ?_
        refine WL.p (by rfl) (Yl.move (by rfl)) ?_
        refine WL.p (by rfl) (Yl.slice_str str9 (by rfl) (by exact ⟨_, by rfl⟩) (by exact ⟨_, by rfl⟩) (by omega) (by omega)) ?_
        refine WL.r (by rfl) (Yr.buildSlice hs sll35 (by rfl) (by rfl) (by rfl) (by repeat (first | exact Fill.nil | (apply Fill.cons; rfl; rfl; rfl; repeat (first | (apply SetAt.here; repeat (first | exact Over.nil | apply Over.cons)) | apply SetAt.there)))) (by rfl)) ?_
        clear hs; rintro _ w ⟨b4, rfl, hb, hs⟩; clear hb
        refine WL.r (by rfl) (Yr.append (s := q) (F := F) hs elt35 (by repeat (first | exact Sel.nil | (apply Sel.cons; (repeat (first | exact Ext.here | apply Ext.there))))) (by rfl) (by rfl) rfl (xs := [(s.drop f).take (k - f)]) (hs.box_cells (by repeat (first | exact List.mem_cons_self | apply List.mem_cons_of_mem))) (by intro x hx; obtain rfl := List.mem_singleton.1 hx; show WfS _; unfold WfS; simp only [List.length_take, List.length_drop]; omega) (by simp; unfold maxLen; omega) (by simp; omega)) ?_
        clear hs; rintro _ w ⟨s5, F5, rfl, hl5, hs⟩
        refine WL.p (by rfl) (Yl.assign (by rfl)) ?_
        refine WL.next ?_
        refine WC.region ?_
        refine WL.p (by rfl) (Yl.move (by rfl)) ?_
        refine WL.p (by rfl) (Yl.add (by rfl) (by rfl) (by omega)) ?_
        refine WL.p (by rfl) (Yl.assign (by rfl)) ?_
        refine WL.nil ?_
        refine At.blocknormal ?_
        refine At.then_ ?_
        refine WC.region ?_
        refine WL.p (by rfl) (Yl.move (by rfl)) ?_
        refine WL.p (by rfl) (Yl.add (by rfl) (by rfl) (by omega)) ?_
        refine WL.p (by rfl) (Yl.assign (by rfl)) ?_
        refine WL.nil ?_
        refine At.roundC (k + 1, k + 1, s5, F5) (hs.only (by repeat (first | exact Sel.nil | (apply Sel.cons; (repeat (first | exact Ext.here | apply Ext.there)))))) ⟨by rfl, by rfl, by rfl, by rfl, trivial⟩ ⟨by rfl, by rfl, by rfl, trivial⟩ ?_ ?_
        ·
          show s.length + 1 - (k + 1) < s.length + 1 - k
          omega
        ·
          have hc := List.drop_eq_getElem_cons (l := s) (i := k) (by omega)
          have hcb : s[k] = b := by apply UInt8.toNat_inj.1; omega
          refine .inl ⟨by omega, Nat.le_refl _, ?_⟩
          rw [hl5, hJ3, hc, hcb, preH_cut, Nat.sub_self, List.take_zero, preH_nil]; simp
      ·
        replace h3 := of_decide_eq_false h3
        refine WC.skip ?_
        refine At.blocknormal ?_
        refine At.then_ ?_
        refine WC.region ?_
        refine WL.p (by rfl) (Yl.move (by rfl)) ?_
        refine WL.p (by rfl) (Yl.add (by rfl) (by rfl) (by omega)) ?_
        refine WL.p (by rfl) (Yl.assign (by rfl)) ?_
        refine WL.nil ?_
        refine At.roundC (k + 1, f, q, F) (hs.only (by repeat (first | exact Sel.nil | (apply Sel.cons; (repeat (first | exact Ext.here | apply Ext.there)))))) ⟨by rfl, by rfl, by rfl, by rfl, trivial⟩ ⟨by rfl, by rfl, by rfl, trivial⟩ ?_ ?_
        ·
          show s.length + 1 - (k + 1) < s.length + 1 - k
          omega
        ·
          have hc := List.drop_eq_getElem_cons (l := s) (i := k) (by omega)
          have hcb : s[k] ≠ b := by intro h; apply h3; rw [h]
          refine .inl ⟨by omega, by omega, ?_⟩
          have e : (s.drop f).take (k + 1 - f) = (s.drop f).take (k - f) ++ [s[k]] := by
            rw [show k + 1 - f = (k - f) + 1 from by omega, List.take_add_one, List.getElem?_drop, show f + (k - f) = k from by omega, List.getElem?_eq_getElem (by omega)]; rfl
          rw [e, hJ3, hc, preH_step hcb]
  ·
    replace h1 := of_decide_eq_false h1
    refine WC.exit ?_
    refine At.thenexit ?_
    refine At.thenexit ?_
    refine At.blockexit ?_
    refine At.then_ ?_
    refine WC.seq ?_
    refine WL.p (by rfl) (Yl.move (by rfl)) ?_
    refine WL.p (by rfl) (Yl.assign (by rfl)) ?_
    refine WL.next ?_
    refine WC.ret ?_
    refine fin1' rfl (by rfl) ?_
    refine Ret.mk hs ?_
    rcases hJ with h | ⟨_, h⟩
    · omega
    · exact ⟨q, rfl, h.symm, hs.fresh (by repeat (first | exact List.mem_cons_self | apply List.mem_cons_of_mem))⟩

theorem c_spec_l1In (x : Int) (least : Int) (most : Int) (w : World)   : Calls Tryd.prog 56 [I x, I least, I most].toArray w (RetP w (Bo (inR x least most))) := by
  refine enterN 15 Tryd.func56 rfl rfl rfl ?_
  have hs := Sat.start w
  refine WC.seq ?_
  refine WL.p (by rfl) (Yl.assign (by rfl)) ?_
  refine WL.next ?_
  refine WC.seq ?_
  refine WL.p (by rfl) (Yl.move (by rfl)) ?_
  refine WL.p (by rfl) (Yl.move (by rfl)) ?_
  refine WL.p (by rfl) (Yl.geq (by rfl) (by rfl)) ?_
  refine WL.p (by rfl) (Yl.move (by rfl)) ?_
  refine WL.split (d := 10) (by rfl) (fun h1 => ?_) (fun h1 => ?_)
  ·
    replace h1 := of_decide_eq_true h1
    refine WL.run (d := 10) (by rfl) (by rfl) ?_
    refine WL.p (by rfl) (Yl.move (by rfl)) ?_
    refine WL.run (d := 10) (by rfl) (by rfl) ?_
    refine WL.p (by rfl) (Yl.move (by rfl)) ?_
    refine WL.run (d := 10) (by rfl) (by rfl) ?_
    refine WL.p (by rfl) (Yl.leq (by rfl) (by rfl)) ?_
    refine WL.p (by rfl) (Yl.pickT (by rfl) (by rfl)) ?_
    refine WL.p (by rfl) (Yl.assign (by rfl)) ?_
    refine WL.next ?_
    refine WC.ret ?_
    refine fin1' rfl (by rfl) ?_
    refine RetP.mk hs ?_
    simp [inR, h1]
  ·
    replace h1 := of_decide_eq_false h1
    refine WL.skip (d := 10) (by rfl) (by rfl) (by rfl) (by rfl) ?_
    refine WL.skip (d := 10) (by rfl) (by rfl) (by rfl) (by rfl) ?_
    refine WL.skip (d := 10) (by rfl) (by rfl) (by rfl) (by rfl) ?_
    refine WL.p (by rfl) (Yl.pickF (by rfl) (by rfl)) ?_
    refine WL.p (by rfl) (Yl.assign (by rfl)) ?_
    refine WL.next ?_
    refine WC.ret ?_
    refine fin1' rfl (by rfl) ?_
    refine RetP.mk hs ?_
    rw [inR_false.2 (by omega)]

theorem c_spec_IsName (s : Str) (w : World) (h_s : Ph.ok w s)  : Calls Tryd.prog 66 [S s].toArray w (RetP w (Bo (isName s))) := by
  have hw : s.length ≤ 9223372036854775807 := h_s
  refine enterN 23 Tryd.func66 rfl rfl rfl ?_
  have hs := Sat.start w
  refine WC.seq ?_
  refine WL.p (by rfl) (Yl.assign (by rfl)) ?_
  refine WL.next ?_
  refine WC.seq' ?_
  refine WC.seq ?_
  refine WL.p (by rfl) (Yl.assign (by rfl)) ?_
  refine WL.next ?_
  refine WC.block ?_
  refine WC.loopC (ι := Nat) (fun k => s.length - k) (fun k => [(3, I (k : Int))]) (fun _ => []) (fun k => s.all lower = (s.drop k).all lower) [(0, _)] 0 (hs) ⟨by rfl, trivial⟩ ⟨by rfl, trivial⟩ ?_ ?_
  ·
    simp
  clear hs; rintro k w hJ hs
  simp only [List.nil_append] at hs
  refine WC.seq' ?_
  refine WC.seq ?_
  refine WL.p (by rfl) (Yl.move (by rfl)) ?_
  refine WL.p (by rfl) (Yl.move (by rfl)) ?_
  refine WL.p (by rfl) (Yl.len_str str9 (by rfl)) ?_
  refine WL.p (by rfl) (Yl.lss (by rfl) (by rfl)) ?_
  refine WL.next ?_
  refine WC.condS (by rfl) (fun h1 => ?_) (fun h1 => ?_)
  ·
    replace h1 := of_decide_eq_true h1
    obtain ⟨d, hd⟩ := exists_get (l := s) (k := k) (by omega)
    rw [drop_cons hd] at hJ
    refine WC.skipn ?_
    refine WC.seq' ?_
    refine WC.block ?_
    refine WC.seq ?_
    refine WL.p (by rfl) (Yl.move (by rfl)) ?_
    refine WL.p (by rfl) (Yl.move (by rfl)) ?_
    refine WL.p (by rfl) (Yl.index str9 (by rfl) (by rfl) (by rfl) (by first | assumption | exact List.getElem?_eq_getElem (by omega))) ?_
    refine WL.p (by rfl) (Yl.lss (by rfl) (by rfl)) ?_
    refine WL.p (by rfl) (Yl.move (by rfl)) ?_
    refine WL.split (d := 14) (by rfl) (fun h2 => ?_) (fun h2 => ?_)
    ·
      replace h2 := of_decide_eq_true h2
      refine WL.skip (d := 14) (by rfl) (by rfl) (by rfl) (by rfl) ?_
      refine WL.skip (d := 14) (by rfl) (by rfl) (by rfl) (by rfl) ?_
      refine WL.skip (d := 14) (by rfl) (by rfl) (by rfl) (by rfl) ?_
      refine WL.skip (d := 14) (by rfl) (by rfl) (by rfl) (by rfl) ?_
      refine WL.p (by rfl) (Yl.pickT (by rfl) (by rfl)) ?_
      refine WL.next ?_
      refine WC.condT (by rfl) ?_
      refine WC.seq ?_
      refine WL.p (by rfl) (Yl.assign (by rfl)) ?_
      refine WL.next ?_
      refine WC.ret ?_
      refine At.blockret ?_
      refine At.thenret ?_
      refine At.thenret ?_
      refine At.blockret ?_
      refine At.thenret ?_
      refine fin1' rfl (by rfl) ?_
      refine RetP.mk hs ?_
      first
        | (simp [isName, hJ, lower]; done)
        | (simp [isName, hJ, lower]; omega)
        | simp_all [isName, hJ, lower]
    ·
      replace h2 := of_decide_eq_false h2
      refine WL.run (d := 14) (by rfl) (by rfl) ?_
      refine WL.p (by rfl) (Yl.move (by rfl)) ?_
      refine WL.run (d := 14) (by rfl) (by rfl) ?_
      refine WL.p (by rfl) (Yl.move (by rfl)) ?_
      refine WL.run (d := 14) (by rfl) (by rfl) ?_
      refine WL.p (by rfl) (Yl.index str9 (by rfl) (by rfl) (by rfl) (by first | assumption | exact List.getElem?_eq_getElem (by omega))) ?_
      refine WL.run (d := 14) (by rfl) (by rfl) ?_
      refine WL.p (by rfl) (Yl.gtr (by rfl) (by rfl)) ?_
      refine WL.p (by rfl) (Yl.pickF (by rfl) (by rfl)) ?_
      refine WL.next ?_
      refine WC.condS (by rfl) (fun h3 => ?_) (fun h3 => ?_)
      ·
        replace h3 := of_decide_eq_true h3
        refine WC.seq ?_
        refine WL.p (by rfl) (Yl.assign (by rfl)) ?_
        refine WL.next ?_
        refine WC.ret ?_
        refine At.blockret ?_
        refine At.thenret ?_
        refine At.thenret ?_
        refine At.blockret ?_
        refine At.thenret ?_
        refine fin1' rfl (by rfl) ?_
        refine RetP.mk hs ?_
        first
          | (simp [isName, hJ, lower]; done)
          | (simp [isName, hJ, lower]; omega)
          | simp_all [isName, hJ, lower]
      ·
        replace h3 := of_decide_eq_false h3
        refine WC.skip ?_
        refine At.blocknormal ?_
        refine At.then_ ?_
        refine WC.region ?_
        refine WL.p (by rfl) (Yl.move (by rfl)) ?_
        refine WL.p (by rfl) (Yl.add (by rfl) (by rfl) (by omega)) ?_
        refine WL.p (by rfl) (Yl.assign (by rfl)) ?_
        refine WL.nil ?_
        refine At.roundC (k + 1) (hs.only (by repeat (first | exact Sel.nil | (apply Sel.cons; (repeat (first | exact Ext.here | apply Ext.there)))))) ⟨by rfl, trivial⟩ ⟨by rfl, trivial⟩ ?_ ?_
        ·
          omega
        ·
          rw [hJ]; simp [lower]; omega
  ·
    replace h1 := of_decide_eq_false h1
    rw [drop_out (l := s) (by omega)] at hJ
    refine WC.exit ?_
    refine At.thenexit ?_
    refine At.thenexit ?_
    refine At.blockexit ?_
    refine At.then_ ?_
    refine WC.seq ?_
    refine WL.p (by rfl) (Yl.move (by rfl)) ?_
    refine WL.p (by rfl) (Yl.len_str str9 (by rfl)) ?_
    refine WL.callp hs (by rfl) (Yc.func (by rfl) fn56) (c_spec_l1In _ _ _ _) ?_
    clear hs; intro w hs
    refine WL.p (by rfl) (Yl.assign (by rfl)) ?_
    refine WL.next ?_
    refine WC.ret ?_
    refine fin1' rfl (by rfl) ?_
    refine RetP.mk hs ?_
    first
      | (simp [isName, hJ, lower]; done)
      | (simp [isName, hJ, lower]; omega)
      | simp_all [isName, hJ, lower]

theorem c_spec_l8Words  (w : World)   : Calls Tryd.prog 89 [].toArray w (Ret w (fun v w' => ∃ x : Sl Str, v = x.v ∧ x.l = opWords ∧ Fresh w x w')) := by
  refine enterN 2 Tryd.func89 rfl rfl rfl ?_
  have hs := Sat.start w
  refine WC.seq ?_
  refine WL.p (by rfl) (Yl.assign (by rfl)) ?_
  refine WL.next ?_
  refine WC.seq ?_
  refine WL.r (by rfl) (Yr.buildSlice hs sll35 (by rfl) (by rfl) (by rfl) (by repeat (first | exact Fill.nil | (apply Fill.cons; rfl; rfl; rfl; repeat (first | (apply SetAt.here; repeat (first | exact Over.nil | apply Over.cons)) | apply SetAt.there)))) (by rfl)) ?_
  clear hs; rintro _ w ⟨b1, rfl, hb, hs⟩; clear hb
  refine WL.p (by rfl) (Yl.assign (by rfl)) ?_
  refine WL.next ?_
  refine WC.ret ?_
  refine fin1' rfl (by rfl) ?_
  refine Ret.mk hs ?_
  replace hs := Sat.boxow (l := (opWords : List Str)) hs rfl rfl (by simp [opWords]; unfold maxLen; omega) (ownL_mk_flat (by intro x hx; simp only [opWords, List.mem_cons, List.not_mem_nil, or_false] at hx; rcases hx with rfl | rfl | rfl | rfl | rfl | rfl <;> (show WfS _; unfold WfS; simp)))
  exact ⟨_, rfl, rfl, hs.fresh List.mem_cons_self⟩

theorem c_spec_l8Line (s : Str) (w : World) (h_s : Ph.ok w s) (hb : s.length ≤ 2097152) : Calls Tryd.prog 51 [S s].toArray w (RetP w (.tuple #[.agg (Ph.enc (specLine s)).toArray, Bo (lineIs s)])) := by
  refine enterN 63 Tryd.func51 rfl rfl rfl ?_
  have hs := Sat.start w
  refine WC.seq ?_
  refine WL.r (by rfl) (Yr.alloc hs zt85) ?_
  clear hs; rintro _ w ⟨b1, rfl, hb, hs⟩; clear hb
  refine WL.p (by rfl) (Yl.assign (by rfl)) ?_
  refine WL.next ?_
  refine WC.seq ?_
  refine WL.call hs (by rfl) (Yc.func (by rfl) fn89) (c_spec_l8Words _) ?_
  have hs0 := hs; clear hs; intro v w hb hR hs; clear hs
  obtain ⟨x2, rfl, hx2, hf2⟩ := hR
  obtain ⟨F2, hs⟩ := hf2.sat hs0 hb; clear hs0 hf2
  refine WL.p (by rfl) (Yl.assign (by rfl)) ?_
  refine WL.next ?_
  refine WC.seq' ?_
  refine WC.seq ?_
  refine WL.p (by rfl) (Yl.assign (by rfl)) ?_
  refine WL.next ?_
  refine WC.block ?_
  refine WC.loopC (ι := Nat) (fun k => 6 - k) (fun k => [(5, I (k : Int))]) (fun k => [box b1 85 [.int .i64 0, .string ⟨#[]⟩], ow x2 F2]) (fun k => 1 ≤ k ∧ ∀ j : Int, 1 ≤ j → j < k → (opPre j).isPrefixOf s = false) [(0, _), (2, _), (4, _), (9, _)] 1 (hs.sel (D := [box b1 85 _, ow x2 F2]) (by repeat (first | exact Sel.nil | (apply Sel.cons; (repeat (first | exact Ext.here | apply Ext.there)))))) ⟨by rfl, by rfl, by rfl, by rfl, trivial⟩ ⟨by rfl, trivial⟩ ?_ ?_
  ·
    exact ⟨Nat.le_refl _, fun j a b => by omega⟩
  clear hs; rintro k w ⟨hJ1, hJ2⟩ hs
  simp only [List.cons_append, List.nil_append] at hs
  have hwl : x2.l.length = 6 := by rw [hx2]; rfl
  refine WC.seq' ?_
  refine WC.seq ?_
  refine WL.p (by rfl) (Yl.move (by rfl)) ?_
  refine WL.p (by rfl) (Yl.move (by rfl)) ?_
  refine WL.p (by rfl) (Yl.len_sl slu35 (by rfl)) ?_
  refine WL.p (by rfl) (Yl.lss (by rfl) (by rfl)) ?_
  refine WL.next ?_
  refine WC.condS (by rfl) (fun h1 => ?_) (fun h1 => ?_)
  ·
    replace h1 := of_decide_eq_true h1
    have hd : x2.l[k]? = some (opPre (k : Int)) := by
      rw [hx2]
      have := opWords_get (k := (k : Int)) ⟨by omega, by omega⟩
      simpa [opPre] using this
    have hpl := opPre_len (k : Int)
    refine WC.skipn ?_
    refine WC.seq' ?_
    refine WC.block ?_
    refine WC.seq ?_
    refine WL.p (by rfl) (Yl.move (by rfl)) ?_
    refine WL.p (by rfl) (Yl.move (by rfl)) ?_
    refine WL.p (by rfl) (Yl.indexAddr slt35 (by rfl) (by rfl) (hs.okow (x := x2) (F := F2) (by repeat (first | exact List.mem_cons_self | apply List.mem_cons_of_mem))) (by rfl) (hd)) ?_
    refine WL.p (by rfl) (Yl.loadC0 sca9 (by rfl) (Sl.Ok.at_ (hs.okow (x := x2) (F := F2) (by repeat (first | exact List.mem_cons_self | apply List.mem_cons_of_mem))) (by assumption)).2 (by rfl)) ?_
    refine WL.p (by rfl) (Yl.assign (by rfl)) ?_
    refine WL.next ?_
    refine WC.seq ?_
    refine WL.p (by rfl) (Yl.move (by rfl)) ?_
    refine WL.p (by rfl) (Yl.len_str str9 (by rfl)) ?_
    refine WL.p (by rfl) (Yl.move (by rfl)) ?_
    refine WL.p (by rfl) (Yl.len_str str9 (by rfl)) ?_
    refine WL.p (by rfl) (Yl.geq (by rfl) (by rfl)) ?_
    refine WL.p (by rfl) (Yl.move (by rfl)) ?_
    refine WL.split (d := 25) (by rfl) (fun h2 => ?_) (fun h2 => ?_)
    ·
      replace h2 := of_decide_eq_true h2
      refine WL.run (d := 25) (by rfl) (by rfl) ?_
      refine WL.p (by rfl) (Yl.move (by rfl)) ?_
      refine WL.run (d := 25) (by rfl) (by rfl) ?_
      refine WL.p (by rfl) (Yl.move (by rfl)) ?_
      refine WL.run (d := 25) (by rfl) (by rfl) ?_
      refine WL.p (by rfl) (Yl.len_str str9 (by rfl)) ?_
      refine WL.run (d := 25) (by rfl) (by rfl) ?_
      refine WL.p (by rfl) (Yl.slice_str str9 (by rfl) (by exact rfl) (by exact ⟨_, by rfl⟩) (by omega) (by omega)) ?_
      refine WL.run (d := 25) (by rfl) (by rfl) ?_
      refine WL.p (by rfl) (Yl.move (by rfl)) ?_
      refine WL.run (d := 25) (by rfl) (by rfl) ?_
      refine WL.p (by rfl) (Yl.eqs (by rfl) (by rfl)) ?_
      refine WL.p (by rfl) (Yl.pickT (by rfl) (by rfl)) ?_
      refine WL.next ?_
      refine WC.condS (by rfl) (fun h3 => ?_) (fun h3 => ?_)
      ·
        replace h3 := of_decide_eq_true h3
        refine WC.seq ?_
        refine WL.p (by rfl) (Yl.move (by rfl)) ?_
        refine WL.p (by rfl) (Yl.move (by rfl)) ?_
        refine WL.p (by rfl) (Yl.move (by rfl)) ?_
        refine WL.p (by rfl) (Yl.len_str str9 (by rfl)) ?_
        refine WL.p (by rfl) (Yl.slice_str str9 (by rfl) (by exact ⟨_, by rfl⟩) (by exact rfl) (by omega) (by omega)) ?_
        refine WL.p (by rfl) (Yl.build bt85 (by rfl) (by repeat (first | exact Fill.nil | (apply Fill.cons; rfl; rfl; rfl; repeat (first | (apply SetAt.here; repeat (first | exact Over.nil | apply Over.cons)) | apply SetAt.there))))) ?_
        refine WL.r (by rfl) (Yr.alloc hs zt85) ?_
        clear hs; rintro _ w ⟨b3, rfl, hb, hs⟩; clear hb
        refine WL.s (Yr.storeB hs (by rfl) (by rfl) (by rfl) (by repeat (first | exact Repl.here | apply Repl.there)) (by repeat (first | (apply SetAt.here; repeat (first | exact Over.nil | apply Over.cons)) | apply SetAt.there)) (by rfl) (by exact szf85)) ?_
        clear hs; rintro _ w hs
        refine WL.next ?_
        refine WC.seq ?_
        refine WL.p (by rfl) (Yl.move (by rfl)) ?_
        refine WL.p (by rfl) (Yl.eqi (by rfl) (by rfl)) ?_
        refine WL.p (by rfl) (Yl.move (by rfl)) ?_
        refine WL.split (d := 41) (by rfl) (fun h4 => ?_) (fun h4 => ?_)
        ·
          replace h4 := of_decide_eq_true h4
          refine WL.skip (d := 41) (by rfl) (by rfl) (by rfl) (by rfl) ?_
          refine WL.skip (d := 41) (by rfl) (by rfl) (by rfl) (by rfl) ?_
          refine WL.p (by rfl) (Yl.pickT (by rfl) (by rfl)) ?_
          refine WL.p (by rfl) (Yl.assign (by rfl)) ?_
          refine WL.next ?_
          refine WC.anyn2 (c := box b1 _ _) mixed hs (by repeat (first | exact Ext.here | apply Ext.there)) ?_
          clear hs; intro w hs
          refine WA.p (i := 0) (by rfl) (by kernel_rfl) (by kernel_rfl) (by kernel_rfl) (by rfl) (hs.only (by repeat (first | exact Sel.nil | (apply Sel.cons; (repeat (first | exact Ext.here | apply Ext.there)))))) (fun w hs => Yl.loadAB agg85 (by rfl) hs (by repeat (first | exact List.mem_cons_self | apply List.mem_cons_of_mem)) (by rfl) (by rfl)) ?_
          refine WA.p (i := 1) (by rfl) (by kernel_rfl) (by kernel_rfl) (by kernel_rfl) (by rfl) (hs.only (by repeat (first | exact Sel.nil | (apply Sel.cons; (repeat (first | exact Ext.here | apply Ext.there)))))) (fun w hs => Yl.move (by rfl)) ?_
          refine WA.p (i := 2) (by rfl) (by kernel_rfl) (by kernel_rfl) (by kernel_rfl) (by rfl) (hs.only (by repeat (first | exact Sel.nil | (apply Sel.cons; (repeat (first | exact Ext.here | apply Ext.there)))))) (fun w hs => Yl.move (by rfl)) ?_
          refine WA.pg (i := 3) (d := 47) (by rfl) (by kernel_rfl) (by kernel_rfl) (by kernel_rfl) (by rfl) (by rfl) (by rfl) (hs.only (by repeat (first | exact Sel.nil | (apply Sel.cons; (repeat (first | exact Ext.here | apply Ext.there)))))) (fun w hs => Yl.fieldAddr fa85_1 (by rfl)) ?_
          refine WA.pg (i := 4) (d := 47) (by rfl) (by kernel_rfl) (by kernel_rfl) (by kernel_rfl) (by rfl) (by rfl) (by rfl) (hs.only (by repeat (first | exact Sel.nil | (apply Sel.cons; (repeat (first | exact Ext.here | apply Ext.there)))))) (fun w hs => Yl.loadB sca9 (by rfl) hs (by repeat (first | exact List.mem_cons_self | apply List.mem_cons_of_mem)) (by rfl)) ?_
          refine WA.pg (i := 5) (d := 47) (by rfl) (by kernel_rfl) (by kernel_rfl) (by kernel_rfl) (by rfl) (by rfl) (by rfl) (hs.only (by repeat (first | exact Sel.nil | (apply Sel.cons; (repeat (first | exact Ext.here | apply Ext.there)))))) (fun w hs => Yl.len_str str9 (by rfl)) ?_
          refine WA.pg (i := 6) (d := 47) (by rfl) (by kernel_rfl) (by kernel_rfl) (by kernel_rfl) (by rfl) (by rfl) (by rfl) (hs.only (by repeat (first | exact Sel.nil | (apply Sel.cons; (repeat (first | exact Ext.here | apply Ext.there)))))) (fun w hs => Yl.leq (by rfl) (by rfl)) ?_
          refine WA.p (i := 7) (by rfl) (by kernel_rfl) (by kernel_rfl) (by kernel_rfl) (by rfl) (hs.only (by repeat (first | exact Sel.nil | (apply Sel.cons; (repeat (first | exact Ext.here | apply Ext.there)))))) (fun w hs => Yl.pickT (by rfl) (by rfl)) ?_
          refine WA.p (i := 8) (by rfl) (by kernel_rfl) (by kernel_rfl) (by kernel_rfl) (by rfl) (hs.only (by repeat (first | exact Sel.nil | (apply Sel.cons; (repeat (first | exact Ext.here | apply Ext.there)))))) (fun w hs => Yl.move (by rfl)) ?_
          refine WA.split (d := 53) (by rfl) (fun h5 => ?_) (fun h5 => ?_)
          ·
            replace h5 := of_decide_eq_true h5
            refine WA.skip (i := 9) (d := 53) (by rfl) (by kernel_rfl) (by kernel_rfl) (by kernel_rfl) (by rfl) (by rfl) (by rfl) (by rfl) (hs.only (by repeat (first | exact Sel.nil | (apply Sel.cons; (repeat (first | exact Ext.here | apply Ext.there)))))) ?_
            refine WA.skip (i := 10) (d := 53) (by rfl) (by kernel_rfl) (by kernel_rfl) (by kernel_rfl) (by rfl) (by rfl) (by rfl) (by rfl) (hs.only (by repeat (first | exact Sel.nil | (apply Sel.cons; (repeat (first | exact Ext.here | apply Ext.there)))))) ?_
            refine WA.skip (i := 11) (d := 53) (by rfl) (by kernel_rfl) (by kernel_rfl) (by kernel_rfl) (by rfl) (by rfl) (by rfl) (by rfl) (hs.only (by repeat (first | exact Sel.nil | (apply Sel.cons; (repeat (first | exact Ext.here | apply Ext.there)))))) ?_
            refine WA.skipU (i := 12) (d := 56) (by rfl) (by kernel_rfl) (by kernel_rfl) (by kernel_rfl) (by rfl) (by rfl) (by rfl) (hs.only (by repeat (first | exact Sel.nil | (apply Sel.cons; (repeat (first | exact Ext.here | apply Ext.there)))))) ?_
            refine WA.skipU (i := 13) (d := 56) (by rfl) (by kernel_rfl) (by kernel_rfl) (by kernel_rfl) (by rfl) (by rfl) (by rfl) (hs.only (by repeat (first | exact Sel.nil | (apply Sel.cons; (repeat (first | exact Ext.here | apply Ext.there)))))) ?_
            refine WA.skipU (i := 14) (d := 56) (by rfl) (by kernel_rfl) (by kernel_rfl) (by kernel_rfl) (by rfl) (by rfl) (by rfl) (hs.only (by repeat (first | exact Sel.nil | (apply Sel.cons; (repeat (first | exact Ext.here | apply Ext.there)))))) ?_
            refine WA.skip (i := 15) (d := 53) (by rfl) (by kernel_rfl) (by kernel_rfl) (by kernel_rfl) (by rfl) (by rfl) (by rfl) (by rfl) (hs.only (by repeat (first | exact Sel.nil | (apply Sel.cons; (repeat (first | exact Ext.here | apply Ext.there)))))) ?_
            refine WA.p (i := 16) (by rfl) (by kernel_rfl) (by kernel_rfl) (by kernel_rfl) (by rfl) (hs.only (by repeat (first | exact Sel.nil | (apply Sel.cons; (repeat (first | exact Ext.here | apply Ext.there)))))) (fun w hs => Yl.pickT (by rfl) (by rfl)) ?_
            refine WA.s (i := 17) (by kernel_rfl) (by rfl) (Yr.storeB hs (by rfl) (by rfl) (by rfl) (by repeat (first | exact Repl.here | apply Repl.there)) (by repeat (first | (apply SetAt.here; repeat (first | exact Over.nil | apply Over.cons)) | apply SetAt.there)) (by rfl) (by exact szf85)) (by rintro _ w hs; exact hs.only (by repeat (first | exact Sel.nil | (apply Sel.cons; (repeat (first | exact Ext.here | apply Ext.there)))))) ?_
            clear hs; rintro _ w hs
            refine WA.p (i := 18) (by rfl) (by kernel_rfl) (by kernel_rfl) (by kernel_rfl) (by rfl) (hs.only (by repeat (first | exact Sel.nil | (apply Sel.cons; (repeat (first | exact Ext.here | apply Ext.there)))))) (fun w hs => Yl.assign (by rfl)) ?_
            refine WA.donen (by kernel_rfl) ?_
            refine WC.ret ?_
            refine At.blockret ?_
            refine At.thenret ?_
            refine At.thenret ?_
            refine At.blockret ?_
            refine At.thenret ?_
            refine fin2c rfl agg85 (by rfl) (by rfl) hs (by repeat (first | exact List.mem_cons_self | apply List.mem_cons_of_mem)) (by rfl) ?_
            refine RetP.mk hs ?_
            first
              | (have ho : opOf s = 0 := opOf_none (fun j a b => hJ2 j a (by omega))
                 simp only [specLine, lineIs, ho]; rfl)
              | (obtain ⟨e, e3⟩ := specLine_hit hJ1 (by omega) h3 hJ2
                 rw [e, e3]
                 clear e e3 h3 hJ2 hd hpl hs
                 generalize (s.drop (opPre (k : Int)).length).take (s.length - (opPre (k : Int)).length) = tx at *
                 refine congrArg (fun b => Value.tuple #[.agg (Ph.enc (⟨(k : Int), tx⟩ : TLine)).toArray, Bo b]) ?_
                 clear hwl h2 h1 hJ1
                 simp only [lineGood]
                 first
                   | (simp_all; done)
                   | (simp_all; omega))
          ·
            replace h5 := of_decide_eq_false h5
            refine WA.pg (i := 9) (d := 53) (by rfl) (by kernel_rfl) (by kernel_rfl) (by kernel_rfl) (by rfl) (by rfl) (by rfl) (hs.only (by repeat (first | exact Sel.nil | (apply Sel.cons; (repeat (first | exact Ext.here | apply Ext.there)))))) (fun w hs => Yl.move (by rfl)) ?_
            refine WA.pg (i := 10) (d := 53) (by rfl) (by kernel_rfl) (by kernel_rfl) (by kernel_rfl) (by rfl) (by rfl) (by rfl) (hs.only (by repeat (first | exact Sel.nil | (apply Sel.cons; (repeat (first | exact Ext.here | apply Ext.there)))))) (fun w hs => Yl.not (by rfl)) ?_
            refine WA.pg (i := 11) (d := 53) (by rfl) (by kernel_rfl) (by kernel_rfl) (by kernel_rfl) (by rfl) (by rfl) (by rfl) (hs.only (by repeat (first | exact Sel.nil | (apply Sel.cons; (repeat (first | exact Ext.here | apply Ext.there)))))) (fun w hs => Yl.move (by rfl)) ?_
            refine WA.skip (i := 12) (d := 56) (by rfl) (by kernel_rfl) (by kernel_rfl) (by kernel_rfl) (by rfl) (by rfl) (by rfl) (by rfl) (hs.only (by repeat (first | exact Sel.nil | (apply Sel.cons; (repeat (first | exact Ext.here | apply Ext.there)))))) ?_
            refine WA.skip (i := 13) (d := 56) (by rfl) (by kernel_rfl) (by kernel_rfl) (by kernel_rfl) (by rfl) (by rfl) (by rfl) (by rfl) (hs.only (by repeat (first | exact Sel.nil | (apply Sel.cons; (repeat (first | exact Ext.here | apply Ext.there)))))) ?_
            refine WA.skip (i := 14) (d := 56) (by rfl) (by kernel_rfl) (by kernel_rfl) (by kernel_rfl) (by rfl) (by rfl) (by rfl) (by rfl) (hs.only (by repeat (first | exact Sel.nil | (apply Sel.cons; (repeat (first | exact Ext.here | apply Ext.there)))))) ?_
            refine WA.pg (i := 15) (d := 53) (by rfl) (by kernel_rfl) (by kernel_rfl) (by kernel_rfl) (by rfl) (by rfl) (by rfl) (hs.only (by repeat (first | exact Sel.nil | (apply Sel.cons; (repeat (first | exact Ext.here | apply Ext.there)))))) (fun w hs => Yl.pickF (by rfl) (by rfl)) ?_
            refine WA.p (i := 16) (by rfl) (by kernel_rfl) (by kernel_rfl) (by kernel_rfl) (by rfl) (hs.only (by repeat (first | exact Sel.nil | (apply Sel.cons; (repeat (first | exact Ext.here | apply Ext.there)))))) (fun w hs => Yl.pickF (by rfl) (by rfl)) ?_
            refine WA.s (i := 17) (by kernel_rfl) (by rfl) (Yr.storeB hs (by rfl) (by rfl) (by rfl) (by repeat (first | exact Repl.here | apply Repl.there)) (by repeat (first | (apply SetAt.here; repeat (first | exact Over.nil | apply Over.cons)) | apply SetAt.there)) (by rfl) (by exact szf85)) (by rintro _ w hs; exact hs.only (by repeat (first | exact Sel.nil | (apply Sel.cons; (repeat (first | exact Ext.here | apply Ext.there)))))) ?_
            clear hs; rintro _ w hs
            refine WA.p (i := 18) (by rfl) (by kernel_rfl) (by kernel_rfl) (by kernel_rfl) (by rfl) (hs.only (by repeat (first | exact Sel.nil | (apply Sel.cons; (repeat (first | exact Ext.here | apply Ext.there)))))) (fun w hs => Yl.assign (by rfl)) ?_
            refine WA.donen (by kernel_rfl) ?_
            refine WC.ret ?_
            refine At.blockret ?_
            refine At.thenret ?_
            refine At.thenret ?_
            refine At.blockret ?_
            refine At.thenret ?_
            refine fin2c rfl agg85 (by rfl) (by rfl) hs (by repeat (first | exact List.mem_cons_self | apply List.mem_cons_of_mem)) (by rfl) ?_
            refine RetP.mk hs ?_
            first
              | (have ho : opOf s = 0 := opOf_none (fun j a b => hJ2 j a (by omega))
                 simp only [specLine, lineIs, ho]; rfl)
              | (obtain ⟨e, e3⟩ := specLine_hit hJ1 (by omega) h3 hJ2
                 rw [e, e3]
                 clear e e3 h3 hJ2 hd hpl hs
                 generalize (s.drop (opPre (k : Int)).length).take (s.length - (opPre (k : Int)).length) = tx at *
                 refine congrArg (fun b => Value.tuple #[.agg (Ph.enc (⟨(k : Int), tx⟩ : TLine)).toArray, Bo b]) ?_
                 clear hwl h2 h1 hJ1
                 simp only [lineGood]
                 first
                   | (simp_all; done)
                   | (simp_all; omega))
        ·
          replace h4 := of_decide_eq_false h4
          refine WL.run (d := 41) (by rfl) (by rfl) ?_
          refine WL.p (by rfl) (Yl.move (by rfl)) ?_
          refine WL.run (d := 41) (by rfl) (by rfl) ?_
          refine WL.p (by rfl) (Yl.eqi (by rfl) (by rfl)) ?_
          refine WL.p (by rfl) (Yl.pickF (by rfl) (by rfl)) ?_
          refine WL.p (by rfl) (Yl.assign (by rfl)) ?_
          refine WL.next ?_
          refine WC.anyn2 (c := box b1 _ _) mixed hs (by repeat (first | exact Ext.here | apply Ext.there)) ?_
          clear hs; intro w hs
          refine WA.p (i := 0) (by rfl) (by kernel_rfl) (by kernel_rfl) (by kernel_rfl) (by rfl) (hs.only (by repeat (first | exact Sel.nil | (apply Sel.cons; (repeat (first | exact Ext.here | apply Ext.there)))))) (fun w hs => Yl.loadAB agg85 (by rfl) hs (by repeat (first | exact List.mem_cons_self | apply List.mem_cons_of_mem)) (by rfl) (by rfl)) ?_
          refine WA.p (i := 1) (by rfl) (by kernel_rfl) (by kernel_rfl) (by kernel_rfl) (by rfl) (hs.only (by repeat (first | exact Sel.nil | (apply Sel.cons; (repeat (first | exact Ext.here | apply Ext.there)))))) (fun w hs => Yl.move (by rfl)) ?_
          refine WA.p (i := 2) (by rfl) (by kernel_rfl) (by kernel_rfl) (by kernel_rfl) (by rfl) (hs.only (by repeat (first | exact Sel.nil | (apply Sel.cons; (repeat (first | exact Ext.here | apply Ext.there)))))) (fun w hs => Yl.move (by rfl)) ?_
          refine WA.split (d := 47) (by rfl) (fun h5 => ?_) (fun h5 => ?_)
          ·
            replace h5 := of_decide_eq_true h5
            refine WA.pg (i := 3) (d := 47) (by rfl) (by kernel_rfl) (by kernel_rfl) (by kernel_rfl) (by rfl) (by rfl) (by rfl) (hs.only (by repeat (first | exact Sel.nil | (apply Sel.cons; (repeat (first | exact Ext.here | apply Ext.there)))))) (fun w hs => Yl.fieldAddr fa85_1 (by rfl)) ?_
            refine WA.pg (i := 4) (d := 47) (by rfl) (by kernel_rfl) (by kernel_rfl) (by kernel_rfl) (by rfl) (by rfl) (by rfl) (hs.only (by repeat (first | exact Sel.nil | (apply Sel.cons; (repeat (first | exact Ext.here | apply Ext.there)))))) (fun w hs => Yl.loadB sca9 (by rfl) hs (by repeat (first | exact List.mem_cons_self | apply List.mem_cons_of_mem)) (by rfl)) ?_
            refine WA.pg (i := 5) (d := 47) (by rfl) (by kernel_rfl) (by kernel_rfl) (by kernel_rfl) (by rfl) (by rfl) (by rfl) (hs.only (by repeat (first | exact Sel.nil | (apply Sel.cons; (repeat (first | exact Ext.here | apply Ext.there)))))) (fun w hs => Yl.len_str str9 (by rfl)) ?_
            refine WA.pg (i := 6) (d := 47) (by rfl) (by kernel_rfl) (by kernel_rfl) (by kernel_rfl) (by rfl) (by rfl) (by rfl) (hs.only (by repeat (first | exact Sel.nil | (apply Sel.cons; (repeat (first | exact Ext.here | apply Ext.there)))))) (fun w hs => Yl.leq (by rfl) (by rfl)) ?_
            refine WA.p (i := 7) (by rfl) (by kernel_rfl) (by kernel_rfl) (by kernel_rfl) (by rfl) (hs.only (by repeat (first | exact Sel.nil | (apply Sel.cons; (repeat (first | exact Ext.here | apply Ext.there)))))) (fun w hs => Yl.pickT (by rfl) (by rfl)) ?_
            refine WA.p (i := 8) (by rfl) (by kernel_rfl) (by kernel_rfl) (by kernel_rfl) (by rfl) (hs.only (by repeat (first | exact Sel.nil | (apply Sel.cons; (repeat (first | exact Ext.here | apply Ext.there)))))) (fun w hs => Yl.move (by rfl)) ?_
            refine WA.split (d := 53) (by rfl) (fun h6 => ?_) (fun h6 => ?_)
            ·
              replace h6 := of_decide_eq_true h6
              refine WA.skip (i := 9) (d := 53) (by rfl) (by kernel_rfl) (by kernel_rfl) (by kernel_rfl) (by rfl) (by rfl) (by rfl) (by rfl) (hs.only (by repeat (first | exact Sel.nil | (apply Sel.cons; (repeat (first | exact Ext.here | apply Ext.there)))))) ?_
              refine WA.skip (i := 10) (d := 53) (by rfl) (by kernel_rfl) (by kernel_rfl) (by kernel_rfl) (by rfl) (by rfl) (by rfl) (by rfl) (hs.only (by repeat (first | exact Sel.nil | (apply Sel.cons; (repeat (first | exact Ext.here | apply Ext.there)))))) ?_
              refine WA.skip (i := 11) (d := 53) (by rfl) (by kernel_rfl) (by kernel_rfl) (by kernel_rfl) (by rfl) (by rfl) (by rfl) (by rfl) (hs.only (by repeat (first | exact Sel.nil | (apply Sel.cons; (repeat (first | exact Ext.here | apply Ext.there)))))) ?_
              refine WA.skipU (i := 12) (d := 56) (by rfl) (by kernel_rfl) (by kernel_rfl) (by kernel_rfl) (by rfl) (by rfl) (by rfl) (hs.only (by repeat (first | exact Sel.nil | (apply Sel.cons; (repeat (first | exact Ext.here | apply Ext.there)))))) ?_
              refine WA.skipU (i := 13) (d := 56) (by rfl) (by kernel_rfl) (by kernel_rfl) (by kernel_rfl) (by rfl) (by rfl) (by rfl) (hs.only (by repeat (first | exact Sel.nil | (apply Sel.cons; (repeat (first | exact Ext.here | apply Ext.there)))))) ?_
              refine WA.skipU (i := 14) (d := 56) (by rfl) (by kernel_rfl) (by kernel_rfl) (by kernel_rfl) (by rfl) (by rfl) (by rfl) (hs.only (by repeat (first | exact Sel.nil | (apply Sel.cons; (repeat (first | exact Ext.here | apply Ext.there)))))) ?_
              refine WA.skip (i := 15) (d := 53) (by rfl) (by kernel_rfl) (by kernel_rfl) (by kernel_rfl) (by rfl) (by rfl) (by rfl) (by rfl) (hs.only (by repeat (first | exact Sel.nil | (apply Sel.cons; (repeat (first | exact Ext.here | apply Ext.there)))))) ?_
              refine WA.p (i := 16) (by rfl) (by kernel_rfl) (by kernel_rfl) (by kernel_rfl) (by rfl) (hs.only (by repeat (first | exact Sel.nil | (apply Sel.cons; (repeat (first | exact Ext.here | apply Ext.there)))))) (fun w hs => Yl.pickT (by rfl) (by rfl)) ?_
              refine WA.s (i := 17) (by kernel_rfl) (by rfl) (Yr.storeB hs (by rfl) (by rfl) (by rfl) (by repeat (first | exact Repl.here | apply Repl.there)) (by repeat (first | (apply SetAt.here; repeat (first | exact Over.nil | apply Over.cons)) | apply SetAt.there)) (by rfl) (by exact szf85)) (by rintro _ w hs; exact hs.only (by repeat (first | exact Sel.nil | (apply Sel.cons; (repeat (first | exact Ext.here | apply Ext.there)))))) ?_
              clear hs; rintro _ w hs
              refine WA.p (i := 18) (by rfl) (by kernel_rfl) (by kernel_rfl) (by kernel_rfl) (by rfl) (hs.only (by repeat (first | exact Sel.nil | (apply Sel.cons; (repeat (first | exact Ext.here | apply Ext.there)))))) (fun w hs => Yl.assign (by rfl)) ?_
              refine WA.donen (by kernel_rfl) ?_
              refine WC.ret ?_
              refine At.blockret ?_
              refine At.thenret ?_
              refine At.thenret ?_
              refine At.blockret ?_
              refine At.thenret ?_
              refine fin2c rfl agg85 (by rfl) (by rfl) hs (by repeat (first | exact List.mem_cons_self | apply List.mem_cons_of_mem)) (by rfl) ?_
              refine RetP.mk hs ?_
              first
                | (have ho : opOf s = 0 := opOf_none (fun j a b => hJ2 j a (by omega))
                   simp only [specLine, lineIs, ho]; rfl)
                | (obtain ⟨e, e3⟩ := specLine_hit hJ1 (by omega) h3 hJ2
                   rw [e, e3]
                   clear e e3 h3 hJ2 hd hpl hs
                   generalize (s.drop (opPre (k : Int)).length).take (s.length - (opPre (k : Int)).length) = tx at *
                   refine congrArg (fun b => Value.tuple #[.agg (Ph.enc (⟨(k : Int), tx⟩ : TLine)).toArray, Bo b]) ?_
                   clear hwl h2 h1 hJ1
                   simp only [lineGood]
                   first
                     | (simp_all; done)
                     | (simp_all; omega))
            ·
              replace h6 := of_decide_eq_false h6
              refine WA.pg (i := 9) (d := 53) (by rfl) (by kernel_rfl) (by kernel_rfl) (by kernel_rfl) (by rfl) (by rfl) (by rfl) (hs.only (by repeat (first | exact Sel.nil | (apply Sel.cons; (repeat (first | exact Ext.here | apply Ext.there)))))) (fun w hs => Yl.move (by rfl)) ?_
              refine WA.pg (i := 10) (d := 53) (by rfl) (by kernel_rfl) (by kernel_rfl) (by kernel_rfl) (by rfl) (by rfl) (by rfl) (hs.only (by repeat (first | exact Sel.nil | (apply Sel.cons; (repeat (first | exact Ext.here | apply Ext.there)))))) (fun w hs => Yl.not (by rfl)) ?_
              refine WA.pg (i := 11) (d := 53) (by rfl) (by kernel_rfl) (by kernel_rfl) (by kernel_rfl) (by rfl) (by rfl) (by rfl) (hs.only (by repeat (first | exact Sel.nil | (apply Sel.cons; (repeat (first | exact Ext.here | apply Ext.there)))))) (fun w hs => Yl.move (by rfl)) ?_
              refine WA.split (d := 56) (by rfl) (fun h7 => ?_) (fun h7 => ?_)
              ·
                replace h7 := not_eq_true h7
                replace h7 := of_decide_eq_false h7
                refine WA.pg (i := 12) (d := 56) (by rfl) (by kernel_rfl) (by kernel_rfl) (by kernel_rfl) (by rfl) (by rfl) (by rfl) (hs.only (by repeat (first | exact Sel.nil | (apply Sel.cons; (repeat (first | exact Ext.here | apply Ext.there)))))) (fun w hs => Yl.fieldAddr fa85_1 (by rfl)) ?_
                refine WA.pg (i := 13) (d := 56) (by rfl) (by kernel_rfl) (by kernel_rfl) (by kernel_rfl) (by rfl) (by rfl) (by rfl) (hs.only (by repeat (first | exact Sel.nil | (apply Sel.cons; (repeat (first | exact Ext.here | apply Ext.there)))))) (fun w hs => Yl.loadB sca9 (by rfl) hs (by repeat (first | exact List.mem_cons_self | apply List.mem_cons_of_mem)) (by rfl)) ?_
                refine WA.callp2g (i := 14) (d := 56) hs (fun _ hs => hs.only (by repeat (first | exact Sel.nil | (apply Sel.cons; (repeat (first | exact Ext.here | apply Ext.there)))))) (by kernel_rfl) (by rfl) (by rfl) (by rfl) (by rfl) (Yc.func (by rfl) fn66) (c_spec_IsName _ _ (by first | assumption | (refine Ph.old ?_ hs; assumption) | (show WfS _; unfold WfS; simp only [List.length_take, List.length_drop]; omega))) ?_
                clear hs; intro w hs
                refine WA.pg (i := 15) (d := 53) (by rfl) (by kernel_rfl) (by kernel_rfl) (by kernel_rfl) (by rfl) (by rfl) (by rfl) (hs.only (by repeat (first | exact Sel.nil | (apply Sel.cons; (repeat (first | exact Ext.here | apply Ext.there)))))) (fun w hs => Yl.pickT (by rfl) (by rfl)) ?_
                refine WA.p (i := 16) (by rfl) (by kernel_rfl) (by kernel_rfl) (by kernel_rfl) (by rfl) (hs.only (by repeat (first | exact Sel.nil | (apply Sel.cons; (repeat (first | exact Ext.here | apply Ext.there)))))) (fun w hs => Yl.pickF (by rfl) (by rfl)) ?_
                refine WA.s (i := 17) (by kernel_rfl) (by rfl) (Yr.storeB hs (by rfl) (by rfl) (by rfl) (by repeat (first | exact Repl.here | apply Repl.there)) (by repeat (first | (apply SetAt.here; repeat (first | exact Over.nil | apply Over.cons)) | apply SetAt.there)) (by rfl) (by exact szf85)) (by rintro _ w hs; exact hs.only (by repeat (first | exact Sel.nil | (apply Sel.cons; (repeat (first | exact Ext.here | apply Ext.there)))))) ?_
                clear hs; rintro _ w hs
                refine WA.p (i := 18) (by rfl) (by kernel_rfl) (by kernel_rfl) (by kernel_rfl) (by rfl) (hs.only (by repeat (first | exact Sel.nil | (apply Sel.cons; (repeat (first | exact Ext.here | apply Ext.there)))))) (fun w hs => Yl.assign (by rfl)) ?_
                refine WA.donen (by kernel_rfl) ?_
                refine WC.ret ?_
                refine At.blockret ?_
                refine At.thenret ?_
                refine At.thenret ?_
                refine At.blockret ?_
                refine At.thenret ?_
                refine fin2c rfl agg85 (by rfl) (by rfl) hs (by repeat (first | exact List.mem_cons_self | apply List.mem_cons_of_mem)) (by rfl) ?_
                refine RetP.mk hs ?_
                first
                  | (have ho : opOf s = 0 := opOf_none (fun j a b => hJ2 j a (by omega))
                     simp only [specLine, lineIs, ho]; rfl)
                  | (obtain ⟨e, e3⟩ := specLine_hit hJ1 (by omega) h3 hJ2
                     rw [e, e3]
                     clear e e3 h3 hJ2 hd hpl hs
                     generalize (s.drop (opPre (k : Int)).length).take (s.length - (opPre (k : Int)).length) = tx at *
                     refine congrArg (fun b => Value.tuple #[.agg (Ph.enc (⟨(k : Int), tx⟩ : TLine)).toArray, Bo b]) ?_
                     clear hwl h2 h1 hJ1
                     simp only [lineGood]
                     first
                       | (simp_all; done)
                       | (simp_all; omega))
              ·
                replace h7 := not_eq_false h7
                replace h7 := of_decide_eq_true h7
                refine WA.skip (i := 12) (d := 56) (by rfl) (by kernel_rfl) (by kernel_rfl) (by kernel_rfl) (by rfl) (by rfl) (by rfl) (by rfl) (hs.only (by repeat (first | exact Sel.nil | (apply Sel.cons; (repeat (first | exact Ext.here | apply Ext.there)))))) ?_
                refine WA.skip (i := 13) (d := 56) (by rfl) (by kernel_rfl) (by kernel_rfl) (by kernel_rfl) (by rfl) (by rfl) (by rfl) (by rfl) (hs.only (by repeat (first | exact Sel.nil | (apply Sel.cons; (repeat (first | exact Ext.here | apply Ext.there)))))) ?_
                refine WA.skip (i := 14) (d := 56) (by rfl) (by kernel_rfl) (by kernel_rfl) (by kernel_rfl) (by rfl) (by rfl) (by rfl) (by rfl) (hs.only (by repeat (first | exact Sel.nil | (apply Sel.cons; (repeat (first | exact Ext.here | apply Ext.there)))))) ?_
                refine WA.pg (i := 15) (d := 53) (by rfl) (by kernel_rfl) (by kernel_rfl) (by kernel_rfl) (by rfl) (by rfl) (by rfl) (hs.only (by repeat (first | exact Sel.nil | (apply Sel.cons; (repeat (first | exact Ext.here | apply Ext.there)))))) (fun w hs => Yl.pickF (by rfl) (by rfl)) ?_
                refine WA.p (i := 16) (by rfl) (by kernel_rfl) (by kernel_rfl) (by kernel_rfl) (by rfl) (hs.only (by repeat (first | exact Sel.nil | (apply Sel.cons; (repeat (first | exact Ext.here | apply Ext.there)))))) (fun w hs => Yl.pickF (by rfl) (by rfl)) ?_
                refine WA.s (i := 17) (by kernel_rfl) (by rfl) (Yr.storeB hs (by rfl) (by rfl) (by rfl) (by repeat (first | exact Repl.here | apply Repl.there)) (by repeat (first | (apply SetAt.here; repeat (first | exact Over.nil | apply Over.cons)) | apply SetAt.there)) (by rfl) (by exact szf85)) (by rintro _ w hs; exact hs.only (by repeat (first | exact Sel.nil | (apply Sel.cons; (repeat (first | exact Ext.here | apply Ext.there)))))) ?_
                clear hs; rintro _ w hs
                refine WA.p (i := 18) (by rfl) (by kernel_rfl) (by kernel_rfl) (by kernel_rfl) (by rfl) (hs.only (by repeat (first | exact Sel.nil | (apply Sel.cons; (repeat (first | exact Ext.here | apply Ext.there)))))) (fun w hs => Yl.assign (by rfl)) ?_
                refine WA.donen (by kernel_rfl) ?_
                refine WC.ret ?_
                refine At.blockret ?_
                refine At.thenret ?_
                refine At.thenret ?_
                refine At.blockret ?_
                refine At.thenret ?_
                refine fin2c rfl agg85 (by rfl) (by rfl) hs (by repeat (first | exact List.mem_cons_self | apply List.mem_cons_of_mem)) (by rfl) ?_
                refine RetP.mk hs ?_
                first
                  | (have ho : opOf s = 0 := opOf_none (fun j a b => hJ2 j a (by omega))
                     simp only [specLine, lineIs, ho]; rfl)
                  | (obtain ⟨e, e3⟩ := specLine_hit hJ1 (by omega) h3 hJ2
                     rw [e, e3]
                     clear e e3 h3 hJ2 hd hpl hs
                     generalize (s.drop (opPre (k : Int)).length).take (s.length - (opPre (k : Int)).length) = tx at *
                     refine congrArg (fun b => Value.tuple #[.agg (Ph.enc (⟨(k : Int), tx⟩ : TLine)).toArray, Bo b]) ?_
                     clear hwl h2 h1 hJ1
                     simp only [lineGood]
                     first
                       | (simp_all; done)
                       | (simp_all; omega))
          ·
            replace h5 := of_decide_eq_false h5
            refine WA.skip (i := 3) (d := 47) (by rfl) (by kernel_rfl) (by kernel_rfl) (by kernel_rfl) (by rfl) (by rfl) (by rfl) (by rfl) (hs.only (by repeat (first | exact Sel.nil | (apply Sel.cons; (repeat (first | exact Ext.here | apply Ext.there)))))) ?_
            refine WA.skip (i := 4) (d := 47) (by rfl) (by kernel_rfl) (by kernel_rfl) (by kernel_rfl) (by rfl) (by rfl) (by rfl) (by rfl) (hs.only (by repeat (first | exact Sel.nil | (apply Sel.cons; (repeat (first | exact Ext.here | apply Ext.there)))))) ?_
            refine WA.skip (i := 5) (d := 47) (by rfl) (by kernel_rfl) (by kernel_rfl) (by kernel_rfl) (by rfl) (by rfl) (by rfl) (by rfl) (hs.only (by repeat (first | exact Sel.nil | (apply Sel.cons; (repeat (first | exact Ext.here | apply Ext.there)))))) ?_
            refine WA.skip (i := 6) (d := 47) (by rfl) (by kernel_rfl) (by kernel_rfl) (by kernel_rfl) (by rfl) (by rfl) (by rfl) (by rfl) (hs.only (by repeat (first | exact Sel.nil | (apply Sel.cons; (repeat (first | exact Ext.here | apply Ext.there)))))) ?_
            refine WA.p (i := 7) (by rfl) (by kernel_rfl) (by kernel_rfl) (by kernel_rfl) (by rfl) (hs.only (by repeat (first | exact Sel.nil | (apply Sel.cons; (repeat (first | exact Ext.here | apply Ext.there)))))) (fun w hs => Yl.pickF (by rfl) (by rfl)) ?_
            refine WA.p (i := 8) (by rfl) (by kernel_rfl) (by kernel_rfl) (by kernel_rfl) (by rfl) (hs.only (by repeat (first | exact Sel.nil | (apply Sel.cons; (repeat (first | exact Ext.here | apply Ext.there)))))) (fun w hs => Yl.move (by rfl)) ?_
            refine WA.pg (i := 9) (d := 53) (by rfl) (by kernel_rfl) (by kernel_rfl) (by kernel_rfl) (by rfl) (by rfl) (by rfl) (hs.only (by repeat (first | exact Sel.nil | (apply Sel.cons; (repeat (first | exact Ext.here | apply Ext.there)))))) (fun w hs => Yl.move (by rfl)) ?_
            refine WA.pg (i := 10) (d := 53) (by rfl) (by kernel_rfl) (by kernel_rfl) (by kernel_rfl) (by rfl) (by rfl) (by rfl) (hs.only (by repeat (first | exact Sel.nil | (apply Sel.cons; (repeat (first | exact Ext.here | apply Ext.there)))))) (fun w hs => Yl.not (by rfl)) ?_
            refine WA.pg (i := 11) (d := 53) (by rfl) (by kernel_rfl) (by kernel_rfl) (by kernel_rfl) (by rfl) (by rfl) (by rfl) (hs.only (by repeat (first | exact Sel.nil | (apply Sel.cons; (repeat (first | exact Ext.here | apply Ext.there)))))) (fun w hs => Yl.move (by rfl)) ?_
            refine WA.split (d := 56) (by rfl) (fun h6 => ?_) (fun h6 => ?_)
            ·
              replace h6 := not_eq_true h6
              replace h6 := of_decide_eq_false h6
              refine WA.pg (i := 12) (d := 56) (by rfl) (by kernel_rfl) (by kernel_rfl) (by kernel_rfl) (by rfl) (by rfl) (by rfl) (hs.only (by repeat (first | exact Sel.nil | (apply Sel.cons; (repeat (first | exact Ext.here | apply Ext.there)))))) (fun w hs => Yl.fieldAddr fa85_1 (by rfl)) ?_
              refine WA.pg (i := 13) (d := 56) (by rfl) (by kernel_rfl) (by kernel_rfl) (by kernel_rfl) (by rfl) (by rfl) (by rfl) (hs.only (by repeat (first | exact Sel.nil | (apply Sel.cons; (repeat (first | exact Ext.here | apply Ext.there)))))) (fun w hs => Yl.loadB sca9 (by rfl) hs (by repeat (first | exact List.mem_cons_self | apply List.mem_cons_of_mem)) (by rfl)) ?_
              refine WA.callp2g (i := 14) (d := 56) hs (fun _ hs => hs.only (by repeat (first | exact Sel.nil | (apply Sel.cons; (repeat (first | exact Ext.here | apply Ext.there)))))) (by kernel_rfl) (by rfl) (by rfl) (by rfl) (by rfl) (Yc.func (by rfl) fn66) (c_spec_IsName _ _ (by first | assumption | (refine Ph.old ?_ hs; assumption) | (show WfS _; unfold WfS; simp only [List.length_take, List.length_drop]; omega))) ?_
              clear hs; intro w hs
              refine WA.pg (i := 15) (d := 53) (by rfl) (by kernel_rfl) (by kernel_rfl) (by kernel_rfl) (by rfl) (by rfl) (by rfl) (hs.only (by repeat (first | exact Sel.nil | (apply Sel.cons; (repeat (first | exact Ext.here | apply Ext.there)))))) (fun w hs => Yl.pickT (by rfl) (by rfl)) ?_
              refine WA.p (i := 16) (by rfl) (by kernel_rfl) (by kernel_rfl) (by kernel_rfl) (by rfl) (hs.only (by repeat (first | exact Sel.nil | (apply Sel.cons; (repeat (first | exact Ext.here | apply Ext.there)))))) (fun w hs => Yl.pickF (by rfl) (by rfl)) ?_
              refine WA.s (i := 17) (by kernel_rfl) (by rfl) (Yr.storeB hs (by rfl) (by rfl) (by rfl) (by repeat (first | exact Repl.here | apply Repl.there)) (by repeat (first | (apply SetAt.here; repeat (first | exact Over.nil | apply Over.cons)) | apply SetAt.there)) (by rfl) (by exact szf85)) (by rintro _ w hs; exact hs.only (by repeat (first | exact Sel.nil | (apply Sel.cons; (repeat (first | exact Ext.here | apply Ext.there)))))) ?_
              clear hs; rintro _ w hs
              refine WA.p (i := 18) (by rfl) (by kernel_rfl) (by kernel_rfl) (by kernel_rfl) (by rfl) (hs.only (by repeat (first | exact Sel.nil | (apply Sel.cons; (repeat (first | exact Ext.here | apply Ext.there)))))) (fun w hs => Yl.assign (by rfl)) ?_
              refine WA.donen (by kernel_rfl) ?_
              refine WC.ret ?_
              refine At.blockret ?_
              refine At.thenret ?_
              refine At.thenret ?_
              refine At.blockret ?_
              refine At.thenret ?_
              refine fin2c rfl agg85 (by rfl) (by rfl) hs (by repeat (first | exact List.mem_cons_self | apply List.mem_cons_of_mem)) (by rfl) ?_
              refine RetP.mk hs ?_
              first
                | (have ho : opOf s = 0 := opOf_none (fun j a b => hJ2 j a (by omega))
                   simp only [specLine, lineIs, ho]; rfl)
                | (obtain ⟨e, e3⟩ := specLine_hit hJ1 (by omega) h3 hJ2
                   rw [e, e3]
                   clear e e3 h3 hJ2 hd hpl hs
                   generalize (s.drop (opPre (k : Int)).length).take (s.length - (opPre (k : Int)).length) = tx at *
                   refine congrArg (fun b => Value.tuple #[.agg (Ph.enc (⟨(k : Int), tx⟩ : TLine)).toArray, Bo b]) ?_
                   clear hwl h2 h1 hJ1
                   simp only [lineGood]
                   first
                     | (simp_all; done)
                     | (simp_all; omega))
            ·
              replace h6 := not_eq_false h6
              replace h6 := of_decide_eq_true h6
              refine WA.skip (i := 12) (d := 56) (by rfl) (by kernel_rfl) (by kernel_rfl) (by kernel_rfl) (by rfl) (by rfl) (by rfl) (by rfl) (hs.only (by repeat (first | exact Sel.nil | (apply Sel.cons; (repeat (first | exact Ext.here | apply Ext.there)))))) ?_
              refine WA.skip (i := 13) (d := 56) (by rfl) (by kernel_rfl) (by kernel_rfl) (by kernel_rfl) (by rfl) (by rfl) (by rfl) (by rfl) (hs.only (by repeat (first | exact Sel.nil | (apply Sel.cons; (repeat (first | exact Ext.here | apply Ext.there)))))) ?_
              refine WA.skip (i := 14) (d := 56) (by rfl) (by kernel_rfl) (by kernel_rfl) (by kernel_rfl) (by rfl) (by rfl) (by rfl) (by rfl) (hs.only (by repeat (first | exact Sel.nil | (apply Sel.cons; (repeat (first | exact Ext.here | apply Ext.there)))))) ?_
              refine WA.pg (i := 15) (d := 53) (by rfl) (by kernel_rfl) (by kernel_rfl) (by kernel_rfl) (by rfl) (by rfl) (by rfl) (hs.only (by repeat (first | exact Sel.nil | (apply Sel.cons; (repeat (first | exact Ext.here | apply Ext.there)))))) (fun w hs => Yl.pickF (by rfl) (by rfl)) ?_
              refine WA.p (i := 16) (by rfl) (by kernel_rfl) (by kernel_rfl) (by kernel_rfl) (by rfl) (hs.only (by repeat (first | exact Sel.nil | (apply Sel.cons; (repeat (first | exact Ext.here | apply Ext.there)))))) (fun w hs => Yl.pickF (by rfl) (by rfl)) ?_
              refine WA.s (i := 17) (by kernel_rfl) (by rfl) (Yr.storeB hs (by rfl) (by rfl) (by rfl) (by repeat (first | exact Repl.here | apply Repl.there)) (by repeat (first | (apply SetAt.here; repeat (first | exact Over.nil | apply Over.cons)) | apply SetAt.there)) (by rfl) (by exact szf85)) (by rintro _ w hs; exact hs.only (by repeat (first | exact Sel.nil | (apply Sel.cons; (repeat (first | exact Ext.here | apply Ext.there)))))) ?_
              clear hs; rintro _ w hs
              refine WA.p (i := 18) (by rfl) (by kernel_rfl) (by kernel_rfl) (by kernel_rfl) (by rfl) (hs.only (by repeat (first | exact Sel.nil | (apply Sel.cons; (repeat (first | exact Ext.here | apply Ext.there)))))) (fun w hs => Yl.assign (by rfl)) ?_
              refine WA.donen (by kernel_rfl) ?_
              refine WC.ret ?_
              refine At.blockret ?_
              refine At.thenret ?_
              refine At.thenret ?_
              refine At.blockret ?_
              refine At.thenret ?_
              refine fin2c rfl agg85 (by rfl) (by rfl) hs (by repeat (first | exact List.mem_cons_self | apply List.mem_cons_of_mem)) (by rfl) ?_
              refine RetP.mk hs ?_
              first
                | (have ho : opOf s = 0 := opOf_none (fun j a b => hJ2 j a (by omega))
                   simp only [specLine, lineIs, ho]; rfl)
                | (obtain ⟨e, e3⟩ := specLine_hit hJ1 (by omega) h3 hJ2
                   rw [e, e3]
                   clear e e3 h3 hJ2 hd hpl hs
                   generalize (s.drop (opPre (k : Int)).length).take (s.length - (opPre (k : Int)).length) = tx at *
                   refine congrArg (fun b => Value.tuple #[.agg (Ph.enc (⟨(k : Int), tx⟩ : TLine)).toArray, Bo b]) ?_
                   clear hwl h2 h1 hJ1
                   simp only [lineGood]
                   first
                     | (simp_all; done)
                     | (simp_all; omega))
      ·
        replace h3 := of_decide_eq_false h3
        refine WC.skip ?_
        refine At.blocknormal ?_
        refine At.then_ ?_
        refine WC.region ?_
        refine WL.p (by rfl) (Yl.move (by rfl)) ?_
        refine WL.p (by rfl) (Yl.add (by rfl) (by rfl) (by omega)) ?_
        refine WL.p (by rfl) (Yl.assign (by rfl)) ?_
        refine WL.nil ?_
        refine At.roundC (k + 1) (hs.only (by repeat (first | exact Sel.nil | (apply Sel.cons; (repeat (first | exact Ext.here | apply Ext.there)))))) ⟨by rfl, by rfl, by rfl, by rfl, trivial⟩ ⟨by rfl, trivial⟩ ?_ ?_
        ·
          show 6 - (k + 1) < 6 - k
          omega
        ·
          refine ⟨by omega, fun j a b => ?_⟩
          by_cases hjk : j = (k : Int)
          · subst hjk
            cases hp : (opPre (k : Int)).isPrefixOf s with
            | false => rfl
            | true =>
              exfalso
              rw [List.isPrefixOf_iff_prefix] at hp
              have hp1 := hp.length_le
              have hp2 := List.prefix_iff_eq_take.1 hp
              first
                | omega
                | exact h3 (by simpa using hp2.symm)
          · exact hJ2 j a (by omega)
    ·
      replace h2 := of_decide_eq_false h2
      refine WL.skip (d := 25) (by rfl) (by rfl) (by rfl) (by rfl) ?_
      refine WL.skip (d := 25) (by rfl) (by rfl) (by rfl) (by rfl) ?_
      refine WL.skip (d := 25) (by rfl) (by rfl) (by rfl) (by rfl) ?_
      refine WL.skip (d := 25) (by rfl) (by rfl) (by rfl) (by rfl) ?_
      refine WL.skip (d := 25) (by rfl) (by rfl) (by rfl) (by rfl) ?_
      refine WL.skip (d := 25) (by rfl) (by rfl) (by rfl) (by rfl) ?_
      refine WL.p (by rfl) (Yl.pickF (by rfl) (by rfl)) ?_
      refine WL.next ?_
      refine WC.condF (by rfl) ?_
      refine WC.skip ?_
      refine At.blocknormal ?_
      refine At.then_ ?_
      refine WC.region ?_
      refine WL.p (by rfl) (Yl.move (by rfl)) ?_
      refine WL.p (by rfl) (Yl.add (by rfl) (by rfl) (by omega)) ?_
      refine WL.p (by rfl) (Yl.assign (by rfl)) ?_
      refine WL.nil ?_
      refine At.roundC (k + 1) (hs.only (by repeat (first | exact Sel.nil | (apply Sel.cons; (repeat (first | exact Ext.here | apply Ext.there)))))) ⟨by rfl, by rfl, by rfl, by rfl, trivial⟩ ⟨by rfl, trivial⟩ ?_ ?_
      ·
        show 6 - (k + 1) < 6 - k
        omega
      ·
        refine ⟨by omega, fun j a b => ?_⟩
        by_cases hjk : j = (k : Int)
        · subst hjk
          cases hp : (opPre (k : Int)).isPrefixOf s with
          | false => rfl
          | true =>
            exfalso
            rw [List.isPrefixOf_iff_prefix] at hp
            have hp1 := hp.length_le
            have hp2 := List.prefix_iff_eq_take.1 hp
            first
              | omega
              | exact h3 (by simpa using hp2.symm)
        · exact hJ2 j a (by omega)
  ·
    replace h1 := of_decide_eq_false h1
    refine WC.exit ?_
    refine At.thenexit ?_
    refine At.thenexit ?_
    refine At.blockexit ?_
    refine At.then_ ?_
    refine WC.seq ?_
    refine WL.p (by rfl) (Yl.build bt85 (by rfl) (by repeat (first | exact Fill.nil | (apply Fill.cons; rfl; rfl; rfl; repeat (first | (apply SetAt.here; repeat (first | exact Over.nil | apply Over.cons)) | apply SetAt.there))))) ?_
    refine WL.s (Yr.storeB hs (by rfl) (by rfl) (by rfl) (by repeat (first | exact Repl.here | apply Repl.there)) (by repeat (first | (apply SetAt.here; repeat (first | exact Over.nil | apply Over.cons)) | apply SetAt.there)) (by rfl) (by exact szf85)) ?_
    clear hs; rintro _ w hs
    refine WL.p (by rfl) (Yl.assign (by rfl)) ?_
    refine WL.next ?_
    refine WC.ret ?_
    refine fin2c rfl agg85 (by rfl) (by rfl) hs (by repeat (first | exact List.mem_cons_self | apply List.mem_cons_of_mem)) (by rfl) ?_
    refine RetP.mk hs ?_
    first
      | (have ho : opOf s = 0 := opOf_none (fun j a b => hJ2 j a (by omega))
         simp only [specLine, lineIs, ho]; rfl)
      | (obtain ⟨e, e3⟩ := specLine_hit hJ1 (by omega) h3 hJ2
         rw [e, e3]
         clear e e3 h3 hJ2 hd hpl hs
         generalize (s.drop (opPre (k : Int)).length).take (s.length - (opPre (k : Int)).length) = tx at *
         refine congrArg (fun b => Value.tuple #[.agg (Ph.enc (⟨(k : Int), tx⟩ : TLine)).toArray, Bo b]) ?_
         clear hwl h2 h1 hJ1
         simp only [lineGood]
         first
           | (simp_all; done)
           | (simp_all; omega))

theorem c_spec_ParseScript (s : Str) (w : World)  (hb : s.length ≤ 2097152) : Calls Tryd.prog 11 [S s].toArray w (Ret w (fun v w' => ∃ x : Sl TLine, v = .tuple #[x.v, Bo (scriptIs s)] ∧ x.l = scriptLines s ∧ Fresh w x w')) := by
  refine enterN 42 Tryd.func11 rfl rfl rfl ?_
  have hs := Sat.start w
  refine WC.seq ?_
  refine WL.p (by rfl) (Yl.assign (by rfl)) ?_
  refine WL.p (by rfl) (Yl.assign (by rfl)) ?_
  refine WL.next ?_
  refine WC.seq ?_
  refine WL.r (by rfl) (Yr.buildSlice hs sll22 (by rfl) (by rfl) (by rfl) (by repeat (first | exact Fill.nil | (apply Fill.cons; rfl; rfl; rfl; repeat (first | (apply SetAt.here; repeat (first | exact Over.nil | apply Over.cons)) | apply SetAt.there)))) (by rfl)) ?_
  clear hs; rintro _ w ⟨b1, rfl, hb, hs⟩; clear hb
  refine WL.p (by rfl) (Yl.assign (by rfl)) ?_
  refine WL.next ?_
  refine WC.seq' ?_
  refine WC.seq ?_
  refine WL.p (by rfl) (Yl.move (by rfl)) ?_
  refine WL.p (by rfl) (Yl.eqs (by rfl) (by rfl)) ?_
  refine WL.next ?_
  refine WC.condS (by rfl) (fun h1 => ?_) (fun h1 => ?_)
  ·
    replace h1 := of_decide_eq_true h1
    refine WC.seq ?_
    refine WL.p (by rfl) (Yl.move (by rfl)) ?_
    refine WL.p (by rfl) (Yl.assign (by rfl)) ?_
    refine WL.p (by rfl) (Yl.assign (by rfl)) ?_
    refine WL.next ?_
    refine WC.ret ?_
    refine At.thenret ?_
    refine fin2' rfl (by rfl) (by rfl) ?_
    refine Ret.mk hs ?_
    replace hs := Sat.boxow (l := ([] : List TLine)) (hs.sel (D := [box b1 _ _]) (by repeat (first | exact Sel.nil | (apply Sel.cons; (repeat (first | exact Ext.here | apply Ext.there)))))) rfl rfl (by simp) (ownL_mk_flat (by simp))
    first
      | exact ⟨⟨[], some ⟨b1, 0, none⟩, 0⟩, by rw [scriptIs_nil h1]; rfl, (scriptLines_nil h1).symm, hs.fresh List.mem_cons_self⟩
      | (replace hx2 : x2.l = splitC 59 s := hx2
         have hb9 : scriptIs s = false := by
           cases hld : lineIs d with
           | false => exact scriptIs_bad h1 (k := k) (d := d) (by rw [← hx2]; exact hd) hld
           | true =>
             refine scriptIs_long h1 ?_
             rw [← hx2]
             first
               | omega
               | (exfalso; simp_all; done)
         exact ⟨⟨[], some ⟨b1, 0, none⟩, 0⟩, by rw [hb9]; rfl, (scriptLines_bad hb9).symm, hs.fresh List.mem_cons_self⟩)
  ·
    replace h1 := of_decide_eq_false h1
    refine WC.skipn ?_
    refine WC.seq ?_
    refine WL.p (by rfl) (Yl.move (by rfl)) ?_
    refine WL.call hs (by rfl) (Yc.func (by rfl) fn50) (c_spec_l5Split _ 59 _ (by first | assumption | omega | (simp only [lsz] at *; omega) | (simp only [lsz, strsz, TPolicy.size, TCache.size, TAddr.size, TRequest.size, TEntry.size, TResponse.size, TLine.size] at *; omega) | (simp only [lsz_map, TPage.size, TBuilder.size, TNode.size, TToken.size, TTokenizer.size, TServer.size, TFile.size, TNet.size, TCache.size, TSheet.size, strsz] at *; omega) | (simp only [lsz_map, TPage.size, TBuilder.size, TNode.size, TToken.size, TTokenizer.size, TServer.size, TFile.size, TNet.size, TCache.size, TSheet.size, strsz, lsz] at *; omega))) ?_
    have hs0 := hs; clear hs; intro v w hb hR hs; clear hs
    obtain ⟨x2, rfl, hx2, hf2⟩ := hR
    obtain ⟨F2, hs⟩ := hf2.sat hs0 hb; clear hs0 hf2
    refine WL.p (by rfl) (Yl.assign (by rfl)) ?_
    refine WL.next ?_
    refine WC.seq' ?_
    refine WC.seq ?_
    refine WL.p (by rfl) (Yl.assign (by rfl)) ?_
    refine WL.next ?_
    refine WC.block ?_
    replace hs := Sat.boxow (l := ([] : List TLine)) (hs.sel (D := [box b1 _ _]) (by repeat (first | exact Sel.nil | (apply Sel.cons; (repeat (first | exact Ext.here | apply Ext.there)))))) rfl rfl (by simp) (ownL_mk_flat (by simp))
    refine WC.loopC (ι := Nat × Sl TLine × List Nat) (fun ⟨k, q, F⟩ => x2.l.length - k) (fun ⟨k, q, F⟩ => [(6, I (k : Int)), (4, q.v)]) (fun ⟨k, q, F⟩ => [ow q F, ow x2 F2]) (fun ⟨k, q, F⟩ => k ≤ x2.l.length ∧ q.l = (x2.l.take k).map specLine ∧ (x2.l.take k).all lineIs = true ∧ (0 < k → x2.l.length ≤ 6)) [(0, _), (5, _), (9, _), (10, _), (11, _), (13, _), (14, _)] (0, ⟨[], some ⟨b1, 0, none⟩, 0⟩, [b1]) (hs.sel (D := [ow (⟨[], some ⟨b1, 0, none⟩, 0⟩ : Sl TLine) [b1], ow x2 F2]) (by repeat (first | exact Sel.nil | (apply Sel.cons; (repeat (first | exact Ext.here | apply Ext.there)))))) ⟨by rfl, by rfl, by rfl, by rfl, by rfl, by rfl, by rfl, trivial⟩ ⟨by rfl, by rfl, trivial⟩ ?_ ?_
    ·
      exact ⟨Nat.zero_le _, rfl, rfl, fun h => absurd h (by omega)⟩
    clear hs; rintro ⟨k, q, F⟩ w ⟨hJ1, hJ2, hJ3, hJ4⟩ hs
    simp only [List.cons_append, List.nil_append] at hs
    have hxl : x2.l.length ≤ s.length + 1 := by rw [hx2]; exact splitC_len _ _
    refine WC.seq' ?_
    refine WC.seq ?_
    refine WL.p (by rfl) (Yl.move (by rfl)) ?_
    refine WL.p (by rfl) (Yl.move (by rfl)) ?_
    refine WL.p (by rfl) (Yl.len_sl slu35 (by rfl)) ?_
    refine WL.p (by rfl) (Yl.lss (by rfl) (by rfl)) ?_
    refine WL.next ?_
    refine WC.condS (by rfl) (fun h2 => ?_) (fun h2 => ?_)
    ·
      replace h2 := of_decide_eq_true h2
      obtain ⟨d, hd⟩ := exists_get (l := x2.l) (k := k) (by omega)
      have hdl : d.length ≤ s.length := splitC_mem_le (b := 59) (by rw [← hx2]; exact List.mem_of_getElem? hd)
      refine WC.skipn ?_
      refine WC.seq' ?_
      refine WC.block ?_
      refine WC.seq ?_
      refine WL.p (by rfl) (Yl.move (by rfl)) ?_
      refine WL.p (by rfl) (Yl.move (by rfl)) ?_
      refine WL.p (by rfl) (Yl.indexAddr slt35 (by rfl) (by rfl) (hs.okow (x := x2) (F := F2) (by repeat (first | exact List.mem_cons_self | apply List.mem_cons_of_mem))) (by rfl) (hd)) ?_
      refine WL.p (by rfl) (Yl.loadC0 sca9 (by rfl) (Sl.Ok.at_ (hs.okow (x := x2) (F := F2) (by repeat (first | exact List.mem_cons_self | apply List.mem_cons_of_mem))) (by assumption)).2 (by rfl)) ?_
      refine WL.callp hs (by rfl) (Yc.func (by rfl) fn51) (c_spec_l8Line _ _ (Sl.Ok.elem (hs.okow (x := x2) (F := F2) (by repeat (first | exact List.mem_cons_self | apply List.mem_cons_of_mem))) hd) (by omega)) ?_
      clear hs; intro w hs
      refine WL.p (by rfl) (Yl.move (by rfl)) ?_
      refine WL.p (by rfl) (Yl.extract (by rfl) (by rfl)) ?_
      refine WL.p (by rfl) (Yl.extract (by rfl) (by rfl)) ?_
      refine WL.r (by rfl) (Yr.alloc hs zt85) ?_
      clear hs; rintro _ w ⟨b3, rfl, hb, hs⟩; clear hb
      refine WL.s (Yr.storeB hs (by rfl) (by rfl) (by rfl) (by repeat (first | exact Repl.here | apply Repl.there)) (by repeat (first | (apply SetAt.here; repeat (first | exact Over.nil | apply Over.cons)) | apply SetAt.there)) (by rfl) (by exact szf85)) ?_
      clear hs; rintro _ w hs
      refine WL.p (by rfl) (Yl.assign (by rfl)) ?_
      refine WL.next ?_
      refine WC.seq' ?_
      refine WC.seq ?_
      refine WL.p (by rfl) (Yl.move (by rfl)) ?_
      refine WL.p (by rfl) (Yl.not (by rfl)) ?_
      refine WL.p (by rfl) (Yl.move (by rfl)) ?_
      refine WL.split (d := 31) (by rfl) (fun h3 => ?_) (fun h3 => ?_)
      ·
        replace h3 := not_eq_true h3
        refine WL.skip (d := 31) (by rfl) (by rfl) (by rfl) (by rfl) ?_
        refine WL.skip (d := 31) (by rfl) (by rfl) (by rfl) (by rfl) ?_
        refine WL.skip (d := 31) (by rfl) (by rfl) (by rfl) (by rfl) ?_
        refine WL.p (by rfl) (Yl.pickT (by rfl) (by rfl)) ?_
        refine WL.next ?_
        refine WC.condT (by rfl) ?_
        refine WC.seq ?_
        refine WL.r (by rfl) (Yr.buildSlice hs sll22 (by rfl) (by rfl) (by rfl) (by repeat (first | exact Fill.nil | (apply Fill.cons; rfl; rfl; rfl; repeat (first | (apply SetAt.here; repeat (first | exact Over.nil | apply Over.cons)) | apply SetAt.there)))) (by rfl)) ?_
        clear hs; rintro _ w ⟨b4, rfl, hb, hs⟩; clear hb
        refine WL.p (by rfl) (Yl.assign (by rfl)) ?_
        refine WL.p (by rfl) (Yl.assign (by rfl)) ?_
        refine WL.next ?_
        refine WC.ret ?_
        refine At.thenret ?_
        refine At.blockret ?_
        refine At.thenret ?_
        refine At.thenret ?_
        refine At.blockret ?_
        refine At.thenret ?_
        refine fin2' rfl (by rfl) (by rfl) ?_
        refine Ret.mk hs ?_
        replace hs := Sat.boxow (l := ([] : List TLine)) (hs.sel (D := [box b4 _ _]) (by repeat (first | exact Sel.nil | (apply Sel.cons; (repeat (first | exact Ext.here | apply Ext.there)))))) rfl rfl (by simp) (ownL_mk_flat (by simp))
        first
          | exact ⟨⟨[], some ⟨b4, 0, none⟩, 0⟩, by rw [scriptIs_nil h1]; rfl, (scriptLines_nil h1).symm, hs.fresh List.mem_cons_self⟩
          | (replace hx2 : x2.l = splitC 59 s := hx2
             have hb9 : scriptIs s = false := by
               cases hld : lineIs d with
               | false => exact scriptIs_bad h1 (k := k) (d := d) (by rw [← hx2]; exact hd) hld
               | true =>
                 refine scriptIs_long h1 ?_
                 rw [← hx2]
                 first
                   | omega
                   | (exfalso; simp_all; done)
             exact ⟨⟨[], some ⟨b4, 0, none⟩, 0⟩, by rw [hb9]; rfl, (scriptLines_bad hb9).symm, hs.fresh List.mem_cons_self⟩)
      ·
        replace h3 := not_eq_false h3
        refine WL.run (d := 31) (by rfl) (by rfl) ?_
        refine WL.p (by rfl) (Yl.move (by rfl)) ?_
        refine WL.run (d := 31) (by rfl) (by rfl) ?_
        refine WL.p (by rfl) (Yl.len_sl slu35 (by rfl)) ?_
        refine WL.run (d := 31) (by rfl) (by rfl) ?_
        refine WL.p (by rfl) (Yl.gtr (by rfl) (by rfl)) ?_
        refine WL.p (by rfl) (Yl.pickF (by rfl) (by rfl)) ?_
        refine WL.next ?_
        refine WC.condS (by rfl) (fun h4 => ?_) (fun h4 => ?_)
        ·
          replace h4 := of_decide_eq_true h4
          refine WC.seq ?_
          refine WL.r (by rfl) (Yr.buildSlice hs sll22 (by rfl) (by rfl) (by rfl) (by repeat (first | exact Fill.nil | (apply Fill.cons; rfl; rfl; rfl; repeat (first | (apply SetAt.here; repeat (first | exact Over.nil | apply Over.cons)) | apply SetAt.there)))) (by rfl)) ?_
          clear hs; rintro _ w ⟨b5, rfl, hb, hs⟩; clear hb
          refine WL.p (by rfl) (Yl.assign (by rfl)) ?_
          refine WL.p (by rfl) (Yl.assign (by rfl)) ?_
          refine WL.next ?_
          refine WC.ret ?_
          refine At.thenret ?_
          refine At.blockret ?_
          refine At.thenret ?_
          refine At.thenret ?_
          refine At.blockret ?_
          refine At.thenret ?_
          refine fin2' rfl (by rfl) (by rfl) ?_
          refine Ret.mk hs ?_
          replace hs := Sat.boxow (l := ([] : List TLine)) (hs.sel (D := [box b5 _ _]) (by repeat (first | exact Sel.nil | (apply Sel.cons; (repeat (first | exact Ext.here | apply Ext.there)))))) rfl rfl (by simp) (ownL_mk_flat (by simp))
          first
            | exact ⟨⟨[], some ⟨b5, 0, none⟩, 0⟩, by rw [scriptIs_nil h1]; rfl, (scriptLines_nil h1).symm, hs.fresh List.mem_cons_self⟩
            | (replace hx2 : x2.l = splitC 59 s := hx2
               have hb9 : scriptIs s = false := by
                 cases hld : lineIs d with
                 | false => exact scriptIs_bad h1 (k := k) (d := d) (by rw [← hx2]; exact hd) hld
                 | true =>
                   refine scriptIs_long h1 ?_
                   rw [← hx2]
                   first
                     | omega
                     | (exfalso; simp_all; done)
               exact ⟨⟨[], some ⟨b5, 0, none⟩, 0⟩, by rw [hb9]; rfl, (scriptLines_bad hb9).symm, hs.fresh List.mem_cons_self⟩)
        ·
          replace h4 := of_decide_eq_false h4
          refine WC.skipn ?_
          refine WC.region ?_
          refine WL.p (by rfl) (Yl.move (by rfl)) ?_
          refine WL.p (by rfl) (Yl.loadAB agg85 (by rfl) hs (by repeat (first | exact List.mem_cons_self | apply List.mem_cons_of_mem)) (by rfl) (by rfl)) ?_
          refine WL.r (by rfl) (Yr.buildSlice hs sll22 (by rfl) (by rfl) (by rfl) (by repeat (first | exact Fill.nil | (apply Fill.cons; rfl; rfl; rfl; repeat (first | (apply SetAt.here; repeat (first | exact Over.nil | apply Over.cons)) | apply SetAt.there)))) (by rfl)) ?_
          clear hs; rintro _ w ⟨b6, rfl, hb, hs⟩; clear hb
          refine WL.r (by rfl) (Yr.append (s := q) (F := F) hs elt22 (by repeat (first | exact Sel.nil | (apply Sel.cons; (repeat (first | exact Ext.here | apply Ext.there))))) (by rfl) (by rfl) rfl (xs := [specLine d]) (hs.box_cells (by repeat (first | exact List.mem_cons_self | apply List.mem_cons_of_mem))) (by intro x hx; obtain rfl := List.mem_singleton.1 hx; exact specLine_ok (by omega)) (by rw [hJ2]; simp; unfold maxLen; omega) (by rw [hJ2]; simp; omega)) ?_
          clear hs; rintro _ w ⟨s7, F7, rfl, hl7, hs⟩
          refine WL.p (by rfl) (Yl.assign (by rfl)) ?_
          refine WL.nil ?_
          refine At.blocknormal ?_
          refine At.then_ ?_
          refine WC.region ?_
          refine WL.p (by rfl) (Yl.move (by rfl)) ?_
          refine WL.p (by rfl) (Yl.add (by rfl) (by rfl) (by omega)) ?_
          refine WL.p (by rfl) (Yl.assign (by rfl)) ?_
          refine WL.nil ?_
          refine At.roundC (k + 1, s7, F7) (hs.only (by repeat (first | exact Sel.nil | (apply Sel.cons; (repeat (first | exact Ext.here | apply Ext.there)))))) ⟨by rfl, by rfl, by rfl, by rfl, by rfl, by rfl, by rfl, trivial⟩ ⟨by rfl, by rfl, trivial⟩ ?_ ?_
          ·
            show x2.l.length - (k + 1) < x2.l.length - k
            omega
          ·
            exact ⟨by omega, by rw [hl7, hJ2]; exact map_step hd, all_step hd hJ3 (by simp_all), fun _ => by omega⟩
    ·
      replace h2 := of_decide_eq_false h2
      refine WC.exit ?_
      refine At.thenexit ?_
      refine At.thenexit ?_
      refine At.blockexit ?_
      refine At.then_ ?_
      refine WC.seq ?_
      refine WL.p (by rfl) (Yl.move (by rfl)) ?_
      refine WL.p (by rfl) (Yl.assign (by rfl)) ?_
      refine WL.p (by rfl) (Yl.assign (by rfl)) ?_
      refine WL.next ?_
      refine WC.ret ?_
      refine fin2' rfl (by rfl) (by rfl) ?_
      refine Ret.mk hs ?_
      replace hx2 : x2.l = splitC 59 s := hx2
      have hk : k = x2.l.length := by omega
      have hne : 0 < (splitC 59 s).length := List.length_pos_iff.2 (splitC_ne 59 s)
      rw [hk, List.take_length] at hJ2 hJ3
      rw [hx2] at hJ2 hJ3
      have hg9 : scriptIs s = true := scriptIs_good hJ3 (by first | (rw [← hx2]; exact hJ4 (by rw [hk, hx2]; exact hne)) | (rw [← hx2, ← hk]; exact hJ4))
      exact ⟨q, by rw [hg9], by rw [scriptLines_good h1 hg9, hJ2], hs.fresh (by repeat (first | exact List.mem_cons_self | apply List.mem_cons_of_mem))⟩

theorem c_strings_Split (s : Str) (sep : Str) (w : World)  (h1 : s.length ≤ 2097152) (h2 : sep = [sep.headD 0]) (hm_ : ∃ m, w.cell? ⟨0, 0, none⟩ = some (.int .i64 m)) : Calls Tryd.prog 52 [S s, S sep].toArray w (Ret w (fun v w' => ∃ x : Sl Str, v = x.v ∧ x.l = splitC (sep.headD 0) s ∧ Fresh w x w')) := by
  rw [h2]; exact split_calls Tryd.strings_Split s (sep.headD 0) w h1 hm_

theorem c_impl_InRange (n : Int) (low : Int) (high : Int) (w : World)   : Calls Tryd.prog 57 [I n, I low, I high].toArray w (RetP w (Bo (inR n low high))) := by
  refine enterN 15 Tryd.func57 rfl rfl rfl ?_
  have hs := Sat.start w
  refine WC.seq ?_
  refine WL.p (by rfl) (Yl.assign (by rfl)) ?_
  refine WL.next ?_
  refine WC.seq ?_
  refine WL.p (by rfl) (Yl.move (by rfl)) ?_
  refine WL.p (by rfl) (Yl.move (by rfl)) ?_
  refine WL.p (by rfl) (Yl.leq (by rfl) (by rfl)) ?_
  refine WL.p (by rfl) (Yl.move (by rfl)) ?_
  refine WL.split (d := 10) (by rfl) (fun h1 => ?_) (fun h1 => ?_)
  ·
    replace h1 := of_decide_eq_true h1
    refine WL.run (d := 10) (by rfl) (by rfl) ?_
    refine WL.p (by rfl) (Yl.move (by rfl)) ?_
    refine WL.run (d := 10) (by rfl) (by rfl) ?_
    refine WL.p (by rfl) (Yl.move (by rfl)) ?_
    refine WL.run (d := 10) (by rfl) (by rfl) ?_
    refine WL.p (by rfl) (Yl.leq (by rfl) (by rfl)) ?_
    refine WL.p (by rfl) (Yl.pickT (by rfl) (by rfl)) ?_
    refine WL.p (by rfl) (Yl.assign (by rfl)) ?_
    refine WL.next ?_
    refine WC.ret ?_
    refine fin1' rfl (by rfl) ?_
    refine RetP.mk hs ?_
    simp [inR, h1]
  ·
    replace h1 := of_decide_eq_false h1
    refine WL.skip (d := 10) (by rfl) (by rfl) (by rfl) (by rfl) ?_
    refine WL.skip (d := 10) (by rfl) (by rfl) (by rfl) (by rfl) ?_
    refine WL.skip (d := 10) (by rfl) (by rfl) (by rfl) (by rfl) ?_
    refine WL.p (by rfl) (Yl.pickF (by rfl) (by rfl)) ?_
    refine WL.p (by rfl) (Yl.assign (by rfl)) ?_
    refine WL.next ?_
    refine WC.ret ?_
    refine fin1' rfl (by rfl) ?_
    refine RetP.mk hs ?_
    rw [inR_false.2 (by omega)]

theorem c_impl_IsName (s : Str) (w : World) (h_s : Ph.ok w s)  : Calls Tryd.prog 68 [S s].toArray w (RetP w (Bo (isName s))) := by
  have hw : s.length ≤ 9223372036854775807 := h_s
  refine enterN 23 Tryd.func68 rfl rfl rfl ?_
  have hs := Sat.start w
  refine WC.seq ?_
  refine WL.p (by rfl) (Yl.assign (by rfl)) ?_
  refine WL.next ?_
  refine WC.seq' ?_
  refine WC.seq ?_
  refine WL.p (by rfl) (Yl.assign (by rfl)) ?_
  refine WL.next ?_
  refine WC.block ?_
  refine WC.loopC (ι := Nat) (fun k => s.length - k) (fun k => [(3, I (k : Int))]) (fun _ => []) (fun k => s.all lower = (s.drop k).all lower) [(0, _)] 0 (hs) ⟨by rfl, trivial⟩ ⟨by rfl, trivial⟩ ?_ ?_
  ·
    simp
  clear hs; rintro k w hJ hs
  simp only [List.nil_append] at hs
  refine WC.seq' ?_
  refine WC.seq ?_
  refine WL.p (by rfl) (Yl.move (by rfl)) ?_
  refine WL.p (by rfl) (Yl.move (by rfl)) ?_
  refine WL.p (by rfl) (Yl.len_str str9 (by rfl)) ?_
  refine WL.p (by rfl) (Yl.lss (by rfl) (by rfl)) ?_
  refine WL.next ?_
  refine WC.condS (by rfl) (fun h1 => ?_) (fun h1 => ?_)
  ·
    replace h1 := of_decide_eq_true h1
    obtain ⟨d, hd⟩ := exists_get (l := s) (k := k) (by omega)
    rw [drop_cons hd] at hJ
    refine WC.skipn ?_
    refine WC.seq' ?_
    refine WC.block ?_
    refine WC.seq ?_
    refine WL.p (by rfl) (Yl.move (by rfl)) ?_
    refine WL.p (by rfl) (Yl.move (by rfl)) ?_
    refine WL.p (by rfl) (Yl.index str9 (by rfl) (by rfl) (by rfl) (by first | assumption | exact List.getElem?_eq_getElem (by omega))) ?_
    refine WL.p (by rfl) (Yl.lss (by rfl) (by rfl)) ?_
    refine WL.p (by rfl) (Yl.move (by rfl)) ?_
    refine WL.split (d := 14) (by rfl) (fun h2 => ?_) (fun h2 => ?_)
    ·
      replace h2 := of_decide_eq_true h2
      refine WL.skip (d := 14) (by rfl) (by rfl) (by rfl) (by rfl) ?_
      refine WL.skip (d := 14) (by rfl) (by rfl) (by rfl) (by rfl) ?_
      refine WL.skip (d := 14) (by rfl) (by rfl) (by rfl) (by rfl) ?_
      refine WL.skip (d := 14) (by rfl) (by rfl) (by rfl) (by rfl) ?_
      refine WL.p (by rfl) (Yl.pickT (by rfl) (by rfl)) ?_
      refine WL.next ?_
      refine WC.condT (by rfl) ?_
      refine WC.seq ?_
      refine WL.p (by rfl) (Yl.assign (by rfl)) ?_
      refine WL.next ?_
      refine WC.ret ?_
      refine At.blockret ?_
      refine At.thenret ?_
      refine At.thenret ?_
      refine At.blockret ?_
      refine At.thenret ?_
      refine fin1' rfl (by rfl) ?_
      refine RetP.mk hs ?_
      first
        | (simp [isName, hJ, lower]; done)
        | (simp [isName, hJ, lower]; omega)
        | simp_all [isName, hJ, lower]
    ·
      replace h2 := of_decide_eq_false h2
      refine WL.run (d := 14) (by rfl) (by rfl) ?_
      refine WL.p (by rfl) (Yl.move (by rfl)) ?_
      refine WL.run (d := 14) (by rfl) (by rfl) ?_
      refine WL.p (by rfl) (Yl.move (by rfl)) ?_
      refine WL.run (d := 14) (by rfl) (by rfl) ?_
      refine WL.p (by rfl) (Yl.index str9 (by rfl) (by rfl) (by rfl) (by first | assumption | exact List.getElem?_eq_getElem (by omega))) ?_
      refine WL.run (d := 14) (by rfl) (by rfl) ?_
      refine WL.p (by rfl) (Yl.gtr (by rfl) (by rfl)) ?_
      refine WL.p (by rfl) (Yl.pickF (by rfl) (by rfl)) ?_
      refine WL.next ?_
      refine WC.condS (by rfl) (fun h3 => ?_) (fun h3 => ?_)
      ·
        replace h3 := of_decide_eq_true h3
        refine WC.seq ?_
        refine WL.p (by rfl) (Yl.assign (by rfl)) ?_
        refine WL.next ?_
        refine WC.ret ?_
        refine At.blockret ?_
        refine At.thenret ?_
        refine At.thenret ?_
        refine At.blockret ?_
        refine At.thenret ?_
        refine fin1' rfl (by rfl) ?_
        refine RetP.mk hs ?_
        first
          | (simp [isName, hJ, lower]; done)
          | (simp [isName, hJ, lower]; omega)
          | simp_all [isName, hJ, lower]
      ·
        replace h3 := of_decide_eq_false h3
        refine WC.skip ?_
        refine At.blocknormal ?_
        refine At.then_ ?_
        refine WC.region ?_
        refine WL.p (by rfl) (Yl.move (by rfl)) ?_
        refine WL.p (by rfl) (Yl.add (by rfl) (by rfl) (by omega)) ?_
        refine WL.p (by rfl) (Yl.assign (by rfl)) ?_
        refine WL.nil ?_
        refine At.roundC (k + 1) (hs.only (by repeat (first | exact Sel.nil | (apply Sel.cons; (repeat (first | exact Ext.here | apply Ext.there)))))) ⟨by rfl, trivial⟩ ⟨by rfl, trivial⟩ ?_ ?_
        ·
          omega
        ·
          rw [hJ]; simp [lower]; omega
  ·
    replace h1 := of_decide_eq_false h1
    rw [drop_out (l := s) (by omega)] at hJ
    refine WC.exit ?_
    refine At.thenexit ?_
    refine At.thenexit ?_
    refine At.blockexit ?_
    refine At.then_ ?_
    refine WC.seq ?_
    refine WL.p (by rfl) (Yl.move (by rfl)) ?_
    refine WL.p (by rfl) (Yl.len_str str9 (by rfl)) ?_
    refine WL.callp hs (by rfl) (Yc.func (by rfl) fn57) (c_impl_InRange _ _ _ _) ?_
    clear hs; intro w hs
    refine WL.p (by rfl) (Yl.assign (by rfl)) ?_
    refine WL.next ?_
    refine WC.ret ?_
    refine fin1' rfl (by rfl) ?_
    refine RetP.mk hs ?_
    first
      | (simp [isName, hJ, lower]; done)
      | (simp [isName, hJ, lower]; omega)
      | simp_all [isName, hJ, lower]

theorem c_strings_Cut (s : Str) (sep : Str) (w : World)  (h1 : s.length ≤ 2097152) (h2 : sep = [sep.headD 0]) (hm_ : ∃ m, w.cell? ⟨0, 0, none⟩ = some (.int .i64 m)) : Calls Tryd.prog 91 [S s, S sep].toArray w (RetP w (.tuple #[S (cutC (sep.headD 0) s).1, S (cutC (sep.headD 0) s).2.1, Bo (cutC (sep.headD 0) s).2.2])) := by
  rw [h2]; exact cut_calls Tryd.strings_Cut s (sep.headD 0) w h1 hm_

theorem c_impl_opWord (op : Int) (w : World)   : Calls Tryd.prog 92 [I op].toArray w (RetP w (S (opWord op))) := by
  refine enterN 11 Tryd.func92 rfl rfl rfl ?_
  have hs := Sat.start w
  refine WC.seq ?_
  refine WL.p (by rfl) (Yl.assign (by rfl)) ?_
  refine WL.next ?_
  refine WC.seq' ?_
  refine WC.seq ?_
  refine WL.p (by rfl) (Yl.move (by rfl)) ?_
  refine WL.callp hs (by rfl) (Yc.func (by rfl) fn57) (c_impl_InRange _ _ _ _) ?_
  clear hs; intro w hs
  refine WL.p (by rfl) (Yl.not (by rfl)) ?_
  refine WL.next ?_
  refine WC.condS (by rfl) (fun h1 => ?_) (fun h1 => ?_)
  ·
    replace h1 := not_eq_true h1
    replace h1 := inR_false.1 h1
    refine WC.seq ?_
    refine WL.p (by rfl) (Yl.assign (by rfl)) ?_
    refine WL.next ?_
    refine WC.ret ?_
    refine At.thenret ?_
    refine fin1' rfl (by rfl) ?_
    refine RetP.mk hs ?_
    rw [opWord_out (by omega)]
  ·
    replace h1 := not_eq_false h1
    replace h1 := inR_true.1 h1
    refine WC.skipn ?_
    refine WC.seq ?_
    refine WL.r (by rfl) (Yr.buildSlice hs sll35 (by rfl) (by rfl) (by rfl) (by repeat (first | exact Fill.nil | (apply Fill.cons; rfl; rfl; rfl; repeat (first | (apply SetAt.here; repeat (first | exact Over.nil | apply Over.cons)) | apply SetAt.there)))) (by rfl)) ?_
    clear hs; rintro _ w ⟨b1, rfl, hb, hs⟩; clear hb
    refine WL.p (by rfl) (Yl.move (by rfl)) ?_
    refine WL.p (by rfl) (Yl.sub_ (by rfl) (by rfl) (by omega)) ?_
    refine WL.p (by rfl) (Yl.indexB (i := (op - 1).toNat) slt35 (by rfl) (by rfl) (by first | rfl | omega) (by first | decide | omega)) ?_
    refine WL.p (by rfl) (Yl.loadB sca9 (by rfl) hs (by repeat (first | exact List.mem_cons_self | apply List.mem_cons_of_mem)) (show _ = some (S (opWord op)) from by rcases (by omega : op = 1 ∨ op = 2 ∨ op = 3 ∨ op = 4 ∨ op = 5) with rfl | rfl | rfl | rfl | rfl <;> rfl)) ?_
    refine WL.p (by rfl) (Yl.assign (by rfl)) ?_
    refine WL.next ?_
    refine WC.ret ?_
    refine fin1' rfl (by rfl) ?_
    refine RetP.mk hs ?_
    rfl

theorem c_impl_parseLine (s : Str) (w : World)  (hb : s.length ≤ 2097152) (hm_ : ∃ m, w.cell? ⟨0, 0, none⟩ = some (.int .i64 m)) : Calls Tryd.prog 53 [S s].toArray w (RetP w (.tuple #[.agg (Ph.enc (implLine s)).toArray, Bo (lineIs s)])) := by
  refine enterN 53 Tryd.func53 rfl rfl rfl ?_
  have hs := Sat.start w
  refine WC.seq ?_
  refine WL.r (by rfl) (Yr.alloc hs zt85) ?_
  clear hs; rintro _ w ⟨b1, rfl, hb, hs⟩; clear hb
  refine WL.p (by rfl) (Yl.assign (by rfl)) ?_
  refine WL.next ?_
  refine WC.seq ?_
  refine WL.p (by rfl) (Yl.move (by rfl)) ?_
  refine WL.callp hs (by rfl) (Yc.func (by rfl) fn91) (c_strings_Cut _ _ _ (by first | assumption | omega | (simp only [lsz] at *; omega) | (simp only [lsz, strsz, TPolicy.size, TCache.size, TAddr.size, TRequest.size, TEntry.size, TResponse.size, TLine.size] at *; omega) | (simp only [lsz_map, TPage.size, TBuilder.size, TNode.size, TToken.size, TTokenizer.size, TServer.size, TFile.size, TNet.size, TCache.size, TSheet.size, strsz] at *; omega) | (simp only [lsz_map, TPage.size, TBuilder.size, TNode.size, TToken.size, TTokenizer.size, TServer.size, TFile.size, TNet.size, TCache.size, TSheet.size, strsz, lsz] at *; omega)) (by rfl) (by first | assumption | exact Sat.cellm hs (by assumption))) ?_
  clear hs; intro w hs
  refine WL.p (by rfl) (Yl.move (by rfl)) ?_
  refine WL.p (by rfl) (Yl.extract (by rfl) (by rfl)) ?_
  refine WL.p (by rfl) (Yl.extract (by rfl) (by rfl)) ?_
  refine WL.p (by rfl) (Yl.extract (by rfl) (by rfl)) ?_
  refine WL.p (by rfl) (Yl.assign (by rfl)) ?_
  refine WL.p (by rfl) (Yl.assign (by rfl)) ?_
  refine WL.p (by rfl) (Yl.assign (by rfl)) ?_
  refine WL.next ?_
  refine WC.seq' ?_
  refine WC.seq ?_
  refine WL.p (by rfl) (Yl.assign (by rfl)) ?_
  refine WL.next ?_
  refine WC.block ?_
  refine WC.loopC (ι := Nat) (fun k => 6 - k) (fun k => [(7, I (k : Int))]) (fun k => [box b1 85 [.int .i64 0, .string ⟨#[]⟩]]) (fun k => 1 ≤ k ∧ k ≤ 6 ∧ ∀ j : Int, 1 ≤ j → j < k → ¬ opWord j = (cutC 32 s).1) [(0, _), (2, _), (4, _), (5, _), (6, _), (9, _), (10, _), (11, _), (12, _), (13, _), (14, _)] 1 (hs.sel (D := [box b1 85 _]) (by repeat (first | exact Sel.nil | (apply Sel.cons; (repeat (first | exact Ext.here | apply Ext.there)))))) ⟨by rfl, by rfl, by rfl, by rfl, by rfl, by rfl, by rfl, by rfl, by rfl, by rfl, by rfl, trivial⟩ ⟨by rfl, trivial⟩ ?_ ?_
  ·
    exact ⟨Nat.le_refl _, by omega, fun j a b => by omega⟩
  clear hs; rintro k w ⟨hJ1, hJ2, hJ3⟩ hs
  simp only [List.cons_append, List.nil_append] at hs
  refine WC.seq' ?_
  refine WC.seq ?_
  refine WL.p (by rfl) (Yl.move (by rfl)) ?_
  refine WL.p (by rfl) (Yl.leq (by rfl) (by rfl)) ?_
  refine WL.next ?_
  refine WC.condS (by rfl) (fun h1 => ?_) (fun h1 => ?_)
  ·
    replace h1 := of_decide_eq_true h1
    
    refine WC.skipn ?_
    refine WC.seq' ?_
    refine WC.block ?_
    refine WC.seq' ?_
    refine WC.seq ?_
    refine WL.p (by rfl) (Yl.move (by rfl)) ?_
    refine WL.callp hs (by rfl) (Yc.func (by rfl) fn92) (c_impl_opWord _ _) ?_
    clear hs; intro w hs
    refine WL.p (by rfl) (Yl.move (by rfl)) ?_
    refine WL.p (by rfl) (Yl.nes (by rfl) (by rfl)) ?_
    refine WL.next ?_
    refine WC.condS (by rfl) (fun h2 => ?_) (fun h2 => ?_)
    ·
      replace h2 := not_eq_true h2
      replace h2 := of_decide_eq_false h2
      refine WC.exit ?_
      refine At.thenexit ?_
      refine At.blockexit ?_
      refine At.then_ ?_
      refine WC.region ?_
      refine WL.p (by rfl) (Yl.move (by rfl)) ?_
      refine WL.p (by rfl) (Yl.add (by rfl) (by rfl) (by omega)) ?_
      refine WL.p (by rfl) (Yl.assign (by rfl)) ?_
      refine WL.nil ?_
      refine At.roundC (k + 1) (hs.only (by repeat (first | exact Sel.nil | (apply Sel.cons; (repeat (first | exact Ext.here | apply Ext.there)))))) ⟨by rfl, by rfl, by rfl, by rfl, by rfl, by rfl, by rfl, by rfl, by rfl, by rfl, by rfl, trivial⟩ ⟨by rfl, trivial⟩ ?_ ?_
      ·
        show 6 - (k + 1) < 6 - k
        omega
      ·
        refine ⟨by omega, by omega, fun j a b => ?_⟩
        by_cases hjk : j = (k : Int)
        · subst hjk; assumption
        · exact hJ3 j a (by omega)
    ·
      replace h2 := not_eq_false h2
      replace h2 := of_decide_eq_true h2
      refine WC.skipn ?_
      refine WC.seq ?_
      refine WL.p (by rfl) (Yl.move (by rfl)) ?_
      refine WL.p (by rfl) (Yl.eqi (by rfl) (by rfl)) ?_
      refine WL.p (by rfl) (Yl.move (by rfl)) ?_
      refine WL.split (d := 25) (by rfl) (fun h3 => ?_) (fun h3 => ?_)
      ·
        replace h3 := of_decide_eq_true h3
        refine WL.skip (d := 25) (by rfl) (by rfl) (by rfl) (by rfl) ?_
        refine WL.skip (d := 25) (by rfl) (by rfl) (by rfl) (by rfl) ?_
        refine WL.p (by rfl) (Yl.pickT (by rfl) (by rfl)) ?_
        refine WL.p (by rfl) (Yl.assign (by rfl)) ?_
        refine WL.next ?_
        refine WC.seq' ?_
        refine WC.seq ?_
        refine WL.p (by rfl) (Yl.move (by rfl)) ?_
        refine WL.p (by rfl) (Yl.not (by rfl)) ?_
        refine WL.p (by rfl) (Yl.move (by rfl)) ?_
        refine WL.split (d := 31) (by rfl) (fun h4 => ?_) (fun h4 => ?_)
        ·
          replace h4 := not_eq_true h4
          refine WL.skip (d := 31) (by rfl) (by rfl) (by rfl) (by rfl) ?_
          refine WL.skip (d := 31) (by rfl) (by rfl) (by rfl) (by rfl) ?_
          refine WL.skipU (d := 33) (by rfl) (by rfl) (by rfl) ?_
          refine WL.skipU (d := 33) (by rfl) (by rfl) (by rfl) ?_
          refine WL.skipU (d := 33) (by rfl) (by rfl) (by rfl) ?_
          refine WL.skip (d := 31) (by rfl) (by rfl) (by rfl) (by rfl) ?_
          refine WL.p (by rfl) (Yl.pickT (by rfl) (by rfl)) ?_
          refine WL.p (by rfl) (Yl.move (by rfl)) ?_
          refine WL.skip (d := 39) (by rfl) (by rfl) (by rfl) (by rfl) ?_
          refine WL.skip (d := 39) (by rfl) (by rfl) (by rfl) (by rfl) ?_
          refine WL.skip (d := 39) (by rfl) (by rfl) (by rfl) (by rfl) ?_
          refine WL.skipU (d := 42) (by rfl) (by rfl) (by rfl) ?_
          refine WL.skipU (d := 42) (by rfl) (by rfl) (by rfl) ?_
          refine WL.skipU (d := 42) (by rfl) (by rfl) (by rfl) ?_
          refine WL.skip (d := 39) (by rfl) (by rfl) (by rfl) (by rfl) ?_
          refine WL.p (by rfl) (Yl.pickT (by rfl) (by rfl)) ?_
          refine WL.next ?_
          refine WC.condT (by rfl) ?_
          refine WC.seq ?_
          refine WL.p (by rfl) (Yl.build bt85 (by rfl) (by repeat (first | exact Fill.nil | (apply Fill.cons; rfl; rfl; rfl; repeat (first | (apply SetAt.here; repeat (first | exact Over.nil | apply Over.cons)) | apply SetAt.there))))) ?_
          refine WL.s (Yr.storeB hs (by rfl) (by rfl) (by rfl) (by repeat (first | exact Repl.here | apply Repl.there)) (by repeat (first | (apply SetAt.here; repeat (first | exact Over.nil | apply Over.cons)) | apply SetAt.there)) (by rfl) (by exact szf85)) ?_
          clear hs; rintro _ w hs
          refine WL.p (by rfl) (Yl.assign (by rfl)) ?_
          refine WL.next ?_
          refine WC.ret ?_
          refine At.thenret ?_
          refine At.blockret ?_
          refine At.thenret ?_
          refine At.thenret ?_
          refine At.blockret ?_
          refine At.thenret ?_
          refine fin2c rfl agg85 (by rfl) (by rfl) hs (by repeat (first | exact List.mem_cons_self | apply List.mem_cons_of_mem)) (by rfl) ?_
          refine RetP.mk hs ?_
          obtain ⟨L1, L2⟩ := line_hit (s := s) (i := (k : Int)) (by omega) (by omega) h2 hJ3
          clear hs
          cases hl : lineIs s with
          | false =>
            simp only [implLine, hl]
            first
              | rfl
              | (exfalso
                 cases hf : (cutC 32 s).2.2 with
                 | false => simp_all
                 | true =>
                   have L3 := L1 hf
                   clear L1 L2 hJ3 h2
                   simp_all [lineGood]
                   try omega)
          | true =>
            cases hf : (cutC 32 s).2.2 with
            | false => rw [L2 hf] at hl; cases hl
            | true =>
              have L3 := L1 hf
              first
                | (simp only [implLine, hl, L3.1]; rfl)
                | (exfalso
                   clear L1 L2 hJ3 h2
                   rw [L3.2] at hl
                   simp_all [lineGood]
                   try omega)
        ·
          replace h4 := not_eq_false h4
          refine WL.run (d := 31) (by rfl) (by rfl) ?_
          refine WL.p (by rfl) (Yl.move (by rfl)) ?_
          refine WL.run (d := 31) (by rfl) (by rfl) ?_
          refine WL.p (by rfl) (Yl.move (by rfl)) ?_
          refine WL.run (d := 33) (by rfl) (by rfl) ?_
          refine WL.p (by rfl) (Yl.move (by rfl)) ?_
          refine WL.run (d := 33) (by rfl) (by rfl) ?_
          refine WL.p (by rfl) (Yl.len_str str9 (by rfl)) ?_
          refine WL.run (d := 33) (by rfl) (by rfl) ?_
          refine WL.p (by rfl) (Yl.gtr (by rfl) (by rfl)) ?_
          refine WL.run (d := 31) (by rfl) (by rfl) ?_
          refine WL.p (by rfl) (Yl.pickT (by rfl) (by rfl)) ?_
          refine WL.p (by rfl) (Yl.pickF (by rfl) (by rfl)) ?_
          refine WL.p (by rfl) (Yl.move (by rfl)) ?_
          refine WL.split (d := 39) (by rfl) (fun h5 => ?_) (fun h5 => ?_)
          ·
            replace h5 := of_decide_eq_true h5
            refine WL.skip (d := 39) (by rfl) (by rfl) (by rfl) (by rfl) ?_
            refine WL.skip (d := 39) (by rfl) (by rfl) (by rfl) (by rfl) ?_
            refine WL.skip (d := 39) (by rfl) (by rfl) (by rfl) (by rfl) ?_
            refine WL.skipU (d := 42) (by rfl) (by rfl) (by rfl) ?_
            refine WL.skipU (d := 42) (by rfl) (by rfl) (by rfl) ?_
            refine WL.skipU (d := 42) (by rfl) (by rfl) (by rfl) ?_
            refine WL.skip (d := 39) (by rfl) (by rfl) (by rfl) (by rfl) ?_
            refine WL.p (by rfl) (Yl.pickT (by rfl) (by rfl)) ?_
            refine WL.next ?_
            refine WC.condT (by rfl) ?_
            refine WC.seq ?_
            refine WL.p (by rfl) (Yl.build bt85 (by rfl) (by repeat (first | exact Fill.nil | (apply Fill.cons; rfl; rfl; rfl; repeat (first | (apply SetAt.here; repeat (first | exact Over.nil | apply Over.cons)) | apply SetAt.there))))) ?_
            refine WL.s (Yr.storeB hs (by rfl) (by rfl) (by rfl) (by repeat (first | exact Repl.here | apply Repl.there)) (by repeat (first | (apply SetAt.here; repeat (first | exact Over.nil | apply Over.cons)) | apply SetAt.there)) (by rfl) (by exact szf85)) ?_
            clear hs; rintro _ w hs
            refine WL.p (by rfl) (Yl.assign (by rfl)) ?_
            refine WL.next ?_
            refine WC.ret ?_
            refine At.thenret ?_
            refine At.blockret ?_
            refine At.thenret ?_
            refine At.thenret ?_
            refine At.blockret ?_
            refine At.thenret ?_
            refine fin2c rfl agg85 (by rfl) (by rfl) hs (by repeat (first | exact List.mem_cons_self | apply List.mem_cons_of_mem)) (by rfl) ?_
            refine RetP.mk hs ?_
            obtain ⟨L1, L2⟩ := line_hit (s := s) (i := (k : Int)) (by omega) (by omega) h2 hJ3
            clear hs
            cases hl : lineIs s with
            | false =>
              simp only [implLine, hl]
              first
                | rfl
                | (exfalso
                   cases hf : (cutC 32 s).2.2 with
                   | false => simp_all
                   | true =>
                     have L3 := L1 hf
                     clear L1 L2 hJ3 h2
                     simp_all [lineGood]
                     try omega)
            | true =>
              cases hf : (cutC 32 s).2.2 with
              | false => rw [L2 hf] at hl; cases hl
              | true =>
                have L3 := L1 hf
                first
                  | (simp only [implLine, hl, L3.1]; rfl)
                  | (exfalso
                     clear L1 L2 hJ3 h2
                     rw [L3.2] at hl
                     simp_all [lineGood]
                     try omega)
          ·
            replace h5 := of_decide_eq_false h5
            refine WL.run (d := 39) (by rfl) (by rfl) ?_
            refine WL.p (by rfl) (Yl.move (by rfl)) ?_
            refine WL.run (d := 39) (by rfl) (by rfl) ?_
            refine WL.p (by rfl) (Yl.not (by rfl)) ?_
            refine WL.run (d := 39) (by rfl) (by rfl) ?_
            refine WL.p (by rfl) (Yl.move (by rfl)) ?_
            refine WL.skip (d := 42) (by rfl) (by rfl) (by rfl) (by rfl) ?_
            refine WL.skip (d := 42) (by rfl) (by rfl) (by rfl) (by rfl) ?_
            refine WL.skip (d := 42) (by rfl) (by rfl) (by rfl) (by rfl) ?_
            refine WL.run (d := 39) (by rfl) (by rfl) ?_
            refine WL.p (by rfl) (Yl.pickF (by rfl) (by rfl)) ?_
            refine WL.p (by rfl) (Yl.pickF (by rfl) (by rfl)) ?_
            refine WL.next ?_
            refine WC.condF (by rfl) ?_
            refine WC.skipn ?_
            refine WC.seq ?_
            refine WL.p (by rfl) (Yl.move (by rfl)) ?_
            refine WL.p (by rfl) (Yl.move (by rfl)) ?_
            refine WL.p (by rfl) (Yl.build bt85 (by rfl) (by repeat (first | exact Fill.nil | (apply Fill.cons; rfl; rfl; rfl; repeat (first | (apply SetAt.here; repeat (first | exact Over.nil | apply Over.cons)) | apply SetAt.there))))) ?_
            refine WL.s (Yr.storeB hs (by rfl) (by rfl) (by rfl) (by repeat (first | exact Repl.here | apply Repl.there)) (by repeat (first | (apply SetAt.here; repeat (first | exact Over.nil | apply Over.cons)) | apply SetAt.there)) (by rfl) (by exact szf85)) ?_
            clear hs; rintro _ w hs
            refine WL.p (by rfl) (Yl.assign (by rfl)) ?_
            refine WL.next ?_
            refine WC.ret ?_
            refine At.blockret ?_
            refine At.thenret ?_
            refine At.thenret ?_
            refine At.blockret ?_
            refine At.thenret ?_
            refine fin2c rfl agg85 (by rfl) (by rfl) hs (by repeat (first | exact List.mem_cons_self | apply List.mem_cons_of_mem)) (by rfl) ?_
            refine RetP.mk hs ?_
            obtain ⟨L1, L2⟩ := line_hit (s := s) (i := (k : Int)) (by omega) (by omega) h2 hJ3
            clear hs
            cases hl : lineIs s with
            | false =>
              simp only [implLine, hl]
              first
                | rfl
                | (exfalso
                   cases hf : (cutC 32 s).2.2 with
                   | false => simp_all
                   | true =>
                     have L3 := L1 hf
                     clear L1 L2 hJ3 h2
                     simp_all [lineGood]
                     try omega)
            | true =>
              cases hf : (cutC 32 s).2.2 with
              | false => rw [L2 hf] at hl; cases hl
              | true =>
                have L3 := L1 hf
                first
                  | (simp only [implLine, hl, L3.1]; rfl)
                  | (exfalso
                     clear L1 L2 hJ3 h2
                     rw [L3.2] at hl
                     simp_all [lineGood]
                     try omega)
      ·
        replace h3 := of_decide_eq_false h3
        refine WL.run (d := 25) (by rfl) (by rfl) ?_
        refine WL.p (by rfl) (Yl.move (by rfl)) ?_
        refine WL.run (d := 25) (by rfl) (by rfl) ?_
        refine WL.p (by rfl) (Yl.eqi (by rfl) (by rfl)) ?_
        refine WL.p (by rfl) (Yl.pickF (by rfl) (by rfl)) ?_
        refine WL.p (by rfl) (Yl.assign (by rfl)) ?_
        refine WL.next ?_
        refine WC.seq' ?_
        refine WC.seq ?_
        refine WL.p (by rfl) (Yl.move (by rfl)) ?_
        refine WL.p (by rfl) (Yl.not (by rfl)) ?_
        refine WL.p (by rfl) (Yl.move (by rfl)) ?_
        refine WL.split (d := 31) (by rfl) (fun h4 => ?_) (fun h4 => ?_)
        ·
          replace h4 := not_eq_true h4
          refine WL.skip (d := 31) (by rfl) (by rfl) (by rfl) (by rfl) ?_
          refine WL.skip (d := 31) (by rfl) (by rfl) (by rfl) (by rfl) ?_
          refine WL.skipU (d := 33) (by rfl) (by rfl) (by rfl) ?_
          refine WL.skipU (d := 33) (by rfl) (by rfl) (by rfl) ?_
          refine WL.skipU (d := 33) (by rfl) (by rfl) (by rfl) ?_
          refine WL.skip (d := 31) (by rfl) (by rfl) (by rfl) (by rfl) ?_
          refine WL.p (by rfl) (Yl.pickT (by rfl) (by rfl)) ?_
          refine WL.p (by rfl) (Yl.move (by rfl)) ?_
          refine WL.skip (d := 39) (by rfl) (by rfl) (by rfl) (by rfl) ?_
          refine WL.skip (d := 39) (by rfl) (by rfl) (by rfl) (by rfl) ?_
          refine WL.skip (d := 39) (by rfl) (by rfl) (by rfl) (by rfl) ?_
          refine WL.skipU (d := 42) (by rfl) (by rfl) (by rfl) ?_
          refine WL.skipU (d := 42) (by rfl) (by rfl) (by rfl) ?_
          refine WL.skipU (d := 42) (by rfl) (by rfl) (by rfl) ?_
          refine WL.skip (d := 39) (by rfl) (by rfl) (by rfl) (by rfl) ?_
          refine WL.p (by rfl) (Yl.pickT (by rfl) (by rfl)) ?_
          refine WL.next ?_
          refine WC.condT (by rfl) ?_
          refine WC.seq ?_
          refine WL.p (by rfl) (Yl.build bt85 (by rfl) (by repeat (first | exact Fill.nil | (apply Fill.cons; rfl; rfl; rfl; repeat (first | (apply SetAt.here; repeat (first | exact Over.nil | apply Over.cons)) | apply SetAt.there))))) ?_
          refine WL.s (Yr.storeB hs (by rfl) (by rfl) (by rfl) (by repeat (first | exact Repl.here | apply Repl.there)) (by repeat (first | (apply SetAt.here; repeat (first | exact Over.nil | apply Over.cons)) | apply SetAt.there)) (by rfl) (by exact szf85)) ?_
          clear hs; rintro _ w hs
          refine WL.p (by rfl) (Yl.assign (by rfl)) ?_
          refine WL.next ?_
          refine WC.ret ?_
          refine At.thenret ?_
          refine At.blockret ?_
          refine At.thenret ?_
          refine At.thenret ?_
          refine At.blockret ?_
          refine At.thenret ?_
          refine fin2c rfl agg85 (by rfl) (by rfl) hs (by repeat (first | exact List.mem_cons_self | apply List.mem_cons_of_mem)) (by rfl) ?_
          refine RetP.mk hs ?_
          obtain ⟨L1, L2⟩ := line_hit (s := s) (i := (k : Int)) (by omega) (by omega) h2 hJ3
          clear hs
          cases hl : lineIs s with
          | false =>
            simp only [implLine, hl]
            first
              | rfl
              | (exfalso
                 cases hf : (cutC 32 s).2.2 with
                 | false => simp_all
                 | true =>
                   have L3 := L1 hf
                   clear L1 L2 hJ3 h2
                   simp_all [lineGood]
                   try omega)
          | true =>
            cases hf : (cutC 32 s).2.2 with
            | false => rw [L2 hf] at hl; cases hl
            | true =>
              have L3 := L1 hf
              first
                | (simp only [implLine, hl, L3.1]; rfl)
                | (exfalso
                   clear L1 L2 hJ3 h2
                   rw [L3.2] at hl
                   simp_all [lineGood]
                   try omega)
        ·
          replace h4 := not_eq_false h4
          refine WL.run (d := 31) (by rfl) (by rfl) ?_
          refine WL.p (by rfl) (Yl.move (by rfl)) ?_
          refine WL.run (d := 31) (by rfl) (by rfl) ?_
          refine WL.p (by rfl) (Yl.move (by rfl)) ?_
          refine WL.split (d := 33) (by rfl) (fun h5 => ?_) (fun h5 => ?_)
          ·
            replace h5 := of_decide_eq_true h5
            refine WL.run (d := 33) (by rfl) (by rfl) ?_
            refine WL.p (by rfl) (Yl.move (by rfl)) ?_
            refine WL.run (d := 33) (by rfl) (by rfl) ?_
            refine WL.p (by rfl) (Yl.len_str str9 (by rfl)) ?_
            refine WL.run (d := 33) (by rfl) (by rfl) ?_
            refine WL.p (by rfl) (Yl.gtr (by rfl) (by rfl)) ?_
            refine WL.run (d := 31) (by rfl) (by rfl) ?_
            refine WL.p (by rfl) (Yl.pickT (by rfl) (by rfl)) ?_
            refine WL.p (by rfl) (Yl.pickF (by rfl) (by rfl)) ?_
            refine WL.p (by rfl) (Yl.move (by rfl)) ?_
            refine WL.split (d := 39) (by rfl) (fun h6 => ?_) (fun h6 => ?_)
            ·
              replace h6 := of_decide_eq_true h6
              refine WL.skip (d := 39) (by rfl) (by rfl) (by rfl) (by rfl) ?_
              refine WL.skip (d := 39) (by rfl) (by rfl) (by rfl) (by rfl) ?_
              refine WL.skip (d := 39) (by rfl) (by rfl) (by rfl) (by rfl) ?_
              refine WL.skipU (d := 42) (by rfl) (by rfl) (by rfl) ?_
              refine WL.skipU (d := 42) (by rfl) (by rfl) (by rfl) ?_
              refine WL.skipU (d := 42) (by rfl) (by rfl) (by rfl) ?_
              refine WL.skip (d := 39) (by rfl) (by rfl) (by rfl) (by rfl) ?_
              refine WL.p (by rfl) (Yl.pickT (by rfl) (by rfl)) ?_
              refine WL.next ?_
              refine WC.condT (by rfl) ?_
              refine WC.seq ?_
              refine WL.p (by rfl) (Yl.build bt85 (by rfl) (by repeat (first | exact Fill.nil | (apply Fill.cons; rfl; rfl; rfl; repeat (first | (apply SetAt.here; repeat (first | exact Over.nil | apply Over.cons)) | apply SetAt.there))))) ?_
              refine WL.s (Yr.storeB hs (by rfl) (by rfl) (by rfl) (by repeat (first | exact Repl.here | apply Repl.there)) (by repeat (first | (apply SetAt.here; repeat (first | exact Over.nil | apply Over.cons)) | apply SetAt.there)) (by rfl) (by exact szf85)) ?_
              clear hs; rintro _ w hs
              refine WL.p (by rfl) (Yl.assign (by rfl)) ?_
              refine WL.next ?_
              refine WC.ret ?_
              refine At.thenret ?_
              refine At.blockret ?_
              refine At.thenret ?_
              refine At.thenret ?_
              refine At.blockret ?_
              refine At.thenret ?_
              refine fin2c rfl agg85 (by rfl) (by rfl) hs (by repeat (first | exact List.mem_cons_self | apply List.mem_cons_of_mem)) (by rfl) ?_
              refine RetP.mk hs ?_
              obtain ⟨L1, L2⟩ := line_hit (s := s) (i := (k : Int)) (by omega) (by omega) h2 hJ3
              clear hs
              cases hl : lineIs s with
              | false =>
                simp only [implLine, hl]
                first
                  | rfl
                  | (exfalso
                     cases hf : (cutC 32 s).2.2 with
                     | false => simp_all
                     | true =>
                       have L3 := L1 hf
                       clear L1 L2 hJ3 h2
                       simp_all [lineGood]
                       try omega)
              | true =>
                cases hf : (cutC 32 s).2.2 with
                | false => rw [L2 hf] at hl; cases hl
                | true =>
                  have L3 := L1 hf
                  first
                    | (simp only [implLine, hl, L3.1]; rfl)
                    | (exfalso
                       clear L1 L2 hJ3 h2
                       rw [L3.2] at hl
                       simp_all [lineGood]
                       try omega)
            ·
              replace h6 := of_decide_eq_false h6
              refine WL.run (d := 39) (by rfl) (by rfl) ?_
              refine WL.p (by rfl) (Yl.move (by rfl)) ?_
              refine WL.run (d := 39) (by rfl) (by rfl) ?_
              refine WL.p (by rfl) (Yl.not (by rfl)) ?_
              refine WL.run (d := 39) (by rfl) (by rfl) ?_
              refine WL.p (by rfl) (Yl.move (by rfl)) ?_
              refine WL.split (d := 42) (by rfl) (fun h7 => ?_) (fun h7 => ?_)
              ·
                replace h7 := not_eq_true h7
                replace h7 := of_decide_eq_false h7
                refine WL.run (d := 42) (by rfl) (by rfl) ?_
                refine WL.p (by rfl) (Yl.move (by rfl)) ?_
                refine WL.run (d := 42) (by rfl) (by rfl) ?_
                refine WL.callp hs (by rfl) (Yc.func (by rfl) fn68) (c_impl_IsName _ _ (by first | assumption | (refine Ph.old ?_ hs; assumption) | (show WfS _; exact Nat.le_trans (cutC_len _ _).2 (by omega)))) ?_
                clear hs; intro w hs
                refine WL.run (d := 42) (by rfl) (by rfl) ?_
                refine WL.p (by rfl) (Yl.not (by rfl)) ?_
                refine WL.run (d := 39) (by rfl) (by rfl) ?_
                refine WL.p (by rfl) (Yl.pickT (by rfl) (by rfl)) ?_
                refine WL.p (by rfl) (Yl.pickF (by rfl) (by rfl)) ?_
                refine WL.next ?_
                refine WC.condS (by rfl) (fun h8 => ?_) (fun h8 => ?_)
                ·
                  replace h8 := not_eq_true h8
                  refine WC.seq ?_
                  refine WL.p (by rfl) (Yl.build bt85 (by rfl) (by repeat (first | exact Fill.nil | (apply Fill.cons; rfl; rfl; rfl; repeat (first | (apply SetAt.here; repeat (first | exact Over.nil | apply Over.cons)) | apply SetAt.there))))) ?_
                  refine WL.s (Yr.storeB hs (by rfl) (by rfl) (by rfl) (by repeat (first | exact Repl.here | apply Repl.there)) (by repeat (first | (apply SetAt.here; repeat (first | exact Over.nil | apply Over.cons)) | apply SetAt.there)) (by rfl) (by exact szf85)) ?_
                  clear hs; rintro _ w hs
                  refine WL.p (by rfl) (Yl.assign (by rfl)) ?_
                  refine WL.next ?_
                  refine WC.ret ?_
                  refine At.thenret ?_
                  refine At.blockret ?_
                  refine At.thenret ?_
                  refine At.thenret ?_
                  refine At.blockret ?_
                  refine At.thenret ?_
                  refine fin2c rfl agg85 (by rfl) (by rfl) hs (by repeat (first | exact List.mem_cons_self | apply List.mem_cons_of_mem)) (by rfl) ?_
                  refine RetP.mk hs ?_
                  obtain ⟨L1, L2⟩ := line_hit (s := s) (i := (k : Int)) (by omega) (by omega) h2 hJ3
                  clear hs
                  cases hl : lineIs s with
                  | false =>
                    simp only [implLine, hl]
                    first
                      | rfl
                      | (exfalso
                         cases hf : (cutC 32 s).2.2 with
                         | false => simp_all
                         | true =>
                           have L3 := L1 hf
                           clear L1 L2 hJ3 h2
                           simp_all [lineGood]
                           try omega)
                  | true =>
                    cases hf : (cutC 32 s).2.2 with
                    | false => rw [L2 hf] at hl; cases hl
                    | true =>
                      have L3 := L1 hf
                      first
                        | (simp only [implLine, hl, L3.1]; rfl)
                        | (exfalso
                           clear L1 L2 hJ3 h2
                           rw [L3.2] at hl
                           simp_all [lineGood]
                           try omega)
                ·
                  replace h8 := not_eq_false h8
                  refine WC.skipn ?_
                  refine WC.seq ?_
                  refine WL.p (by rfl) (Yl.move (by rfl)) ?_
                  refine WL.p (by rfl) (Yl.move (by rfl)) ?_
                  refine WL.p (by rfl) (Yl.build bt85 (by rfl) (by repeat (first | exact Fill.nil | (apply Fill.cons; rfl; rfl; rfl; repeat (first | (apply SetAt.here; repeat (first | exact Over.nil | apply Over.cons)) | apply SetAt.there))))) ?_
                  refine WL.s (Yr.storeB hs (by rfl) (by rfl) (by rfl) (by repeat (first | exact Repl.here | apply Repl.there)) (by repeat (first | (apply SetAt.here; repeat (first | exact Over.nil | apply Over.cons)) | apply SetAt.there)) (by rfl) (by exact szf85)) ?_
                  clear hs; rintro _ w hs
                  refine WL.p (by rfl) (Yl.assign (by rfl)) ?_
                  refine WL.next ?_
                  refine WC.ret ?_
                  refine At.blockret ?_
                  refine At.thenret ?_
                  refine At.thenret ?_
                  refine At.blockret ?_
                  refine At.thenret ?_
                  refine fin2c rfl agg85 (by rfl) (by rfl) hs (by repeat (first | exact List.mem_cons_self | apply List.mem_cons_of_mem)) (by rfl) ?_
                  refine RetP.mk hs ?_
                  obtain ⟨L1, L2⟩ := line_hit (s := s) (i := (k : Int)) (by omega) (by omega) h2 hJ3
                  clear hs
                  cases hl : lineIs s with
                  | false =>
                    simp only [implLine, hl]
                    first
                      | rfl
                      | (exfalso
                         cases hf : (cutC 32 s).2.2 with
                         | false => simp_all
                         | true =>
                           have L3 := L1 hf
                           clear L1 L2 hJ3 h2
                           simp_all [lineGood]
                           try omega)
                  | true =>
                    cases hf : (cutC 32 s).2.2 with
                    | false => rw [L2 hf] at hl; cases hl
                    | true =>
                      have L3 := L1 hf
                      first
                        | (simp only [implLine, hl, L3.1]; rfl)
                        | (exfalso
                           clear L1 L2 hJ3 h2
                           rw [L3.2] at hl
                           simp_all [lineGood]
                           try omega)
              ·
                replace h7 := not_eq_false h7
                replace h7 := of_decide_eq_true h7
                refine WL.skip (d := 42) (by rfl) (by rfl) (by rfl) (by rfl) ?_
                refine WL.skip (d := 42) (by rfl) (by rfl) (by rfl) (by rfl) ?_
                refine WL.skip (d := 42) (by rfl) (by rfl) (by rfl) (by rfl) ?_
                refine WL.run (d := 39) (by rfl) (by rfl) ?_
                refine WL.p (by rfl) (Yl.pickF (by rfl) (by rfl)) ?_
                refine WL.p (by rfl) (Yl.pickF (by rfl) (by rfl)) ?_
                refine WL.next ?_
                refine WC.condF (by rfl) ?_
                refine WC.skipn ?_
                refine WC.seq ?_
                refine WL.p (by rfl) (Yl.move (by rfl)) ?_
                refine WL.p (by rfl) (Yl.move (by rfl)) ?_
                refine WL.p (by rfl) (Yl.build bt85 (by rfl) (by repeat (first | exact Fill.nil | (apply Fill.cons; rfl; rfl; rfl; repeat (first | (apply SetAt.here; repeat (first | exact Over.nil | apply Over.cons)) | apply SetAt.there))))) ?_
                refine WL.s (Yr.storeB hs (by rfl) (by rfl) (by rfl) (by repeat (first | exact Repl.here | apply Repl.there)) (by repeat (first | (apply SetAt.here; repeat (first | exact Over.nil | apply Over.cons)) | apply SetAt.there)) (by rfl) (by exact szf85)) ?_
                clear hs; rintro _ w hs
                refine WL.p (by rfl) (Yl.assign (by rfl)) ?_
                refine WL.next ?_
                refine WC.ret ?_
                refine At.blockret ?_
                refine At.thenret ?_
                refine At.thenret ?_
                refine At.blockret ?_
                refine At.thenret ?_
                refine fin2c rfl agg85 (by rfl) (by rfl) hs (by repeat (first | exact List.mem_cons_self | apply List.mem_cons_of_mem)) (by rfl) ?_
                refine RetP.mk hs ?_
                obtain ⟨L1, L2⟩ := line_hit (s := s) (i := (k : Int)) (by omega) (by omega) h2 hJ3
                clear hs
                cases hl : lineIs s with
                | false =>
                  simp only [implLine, hl]
                  first
                    | rfl
                    | (exfalso
                       cases hf : (cutC 32 s).2.2 with
                       | false => simp_all
                       | true =>
                         have L3 := L1 hf
                         clear L1 L2 hJ3 h2
                         simp_all [lineGood]
                         try omega)
                | true =>
                  cases hf : (cutC 32 s).2.2 with
                  | false => rw [L2 hf] at hl; cases hl
                  | true =>
                    have L3 := L1 hf
                    first
                      | (simp only [implLine, hl, L3.1]; rfl)
                      | (exfalso
                         clear L1 L2 hJ3 h2
                         rw [L3.2] at hl
                         simp_all [lineGood]
                         try omega)
          ·
            replace h5 := of_decide_eq_false h5
            refine WL.skip (d := 33) (by rfl) (by rfl) (by rfl) (by rfl) ?_
            refine WL.skip (d := 33) (by rfl) (by rfl) (by rfl) (by rfl) ?_
            refine WL.skip (d := 33) (by rfl) (by rfl) (by rfl) (by rfl) ?_
            refine WL.run (d := 31) (by rfl) (by rfl) ?_
            refine WL.p (by rfl) (Yl.pickF (by rfl) (by rfl)) ?_
            refine WL.p (by rfl) (Yl.pickF (by rfl) (by rfl)) ?_
            refine WL.p (by rfl) (Yl.move (by rfl)) ?_
            refine WL.run (d := 39) (by rfl) (by rfl) ?_
            refine WL.p (by rfl) (Yl.move (by rfl)) ?_
            refine WL.run (d := 39) (by rfl) (by rfl) ?_
            refine WL.p (by rfl) (Yl.not (by rfl)) ?_
            refine WL.run (d := 39) (by rfl) (by rfl) ?_
            refine WL.p (by rfl) (Yl.move (by rfl)) ?_
            refine WL.split (d := 42) (by rfl) (fun h6 => ?_) (fun h6 => ?_)
            ·
              replace h6 := not_eq_true h6
              replace h6 := of_decide_eq_false h6
              refine WL.run (d := 42) (by rfl) (by rfl) ?_
              refine WL.p (by rfl) (Yl.move (by rfl)) ?_
              refine WL.run (d := 42) (by rfl) (by rfl) ?_
              refine WL.callp hs (by rfl) (Yc.func (by rfl) fn68) (c_impl_IsName _ _ (by first | assumption | (refine Ph.old ?_ hs; assumption) | (show WfS _; exact Nat.le_trans (cutC_len _ _).2 (by omega)))) ?_
              clear hs; intro w hs
              refine WL.run (d := 42) (by rfl) (by rfl) ?_
              refine WL.p (by rfl) (Yl.not (by rfl)) ?_
              refine WL.run (d := 39) (by rfl) (by rfl) ?_
              refine WL.p (by rfl) (Yl.pickT (by rfl) (by rfl)) ?_
              refine WL.p (by rfl) (Yl.pickF (by rfl) (by rfl)) ?_
              refine WL.next ?_
              refine WC.condS (by rfl) (fun h7 => ?_) (fun h7 => ?_)
              ·
                replace h7 := not_eq_true h7
                refine WC.seq ?_
                refine WL.p (by rfl) (Yl.build bt85 (by rfl) (by repeat (first | exact Fill.nil | (apply Fill.cons; rfl; rfl; rfl; repeat (first | (apply SetAt.here; repeat (first | exact Over.nil | apply Over.cons)) | apply SetAt.there))))) ?_
                refine WL.s (Yr.storeB hs (by rfl) (by rfl) (by rfl) (by repeat (first | exact Repl.here | apply Repl.there)) (by repeat (first | (apply SetAt.here; repeat (first | exact Over.nil | apply Over.cons)) | apply SetAt.there)) (by rfl) (by exact szf85)) ?_
                clear hs; rintro _ w hs
                refine WL.p (by rfl) (Yl.assign (by rfl)) ?_
                refine WL.next ?_
                refine WC.ret ?_
                refine At.thenret ?_
                refine At.blockret ?_
                refine At.thenret ?_
                refine At.thenret ?_
                refine At.blockret ?_
                refine At.thenret ?_
                refine fin2c rfl agg85 (by rfl) (by rfl) hs (by repeat (first | exact List.mem_cons_self | apply List.mem_cons_of_mem)) (by rfl) ?_
                refine RetP.mk hs ?_
                obtain ⟨L1, L2⟩ := line_hit (s := s) (i := (k : Int)) (by omega) (by omega) h2 hJ3
                clear hs
                cases hl : lineIs s with
                | false =>
                  simp only [implLine, hl]
                  first
                    | rfl
                    | (exfalso
                       cases hf : (cutC 32 s).2.2 with
                       | false => simp_all
                       | true =>
                         have L3 := L1 hf
                         clear L1 L2 hJ3 h2
                         simp_all [lineGood]
                         try omega)
                | true =>
                  cases hf : (cutC 32 s).2.2 with
                  | false => rw [L2 hf] at hl; cases hl
                  | true =>
                    have L3 := L1 hf
                    first
                      | (simp only [implLine, hl, L3.1]; rfl)
                      | (exfalso
                         clear L1 L2 hJ3 h2
                         rw [L3.2] at hl
                         simp_all [lineGood]
                         try omega)
              ·
                replace h7 := not_eq_false h7
                refine WC.skipn ?_
                refine WC.seq ?_
                refine WL.p (by rfl) (Yl.move (by rfl)) ?_
                refine WL.p (by rfl) (Yl.move (by rfl)) ?_
                refine WL.p (by rfl) (Yl.build bt85 (by rfl) (by repeat (first | exact Fill.nil | (apply Fill.cons; rfl; rfl; rfl; repeat (first | (apply SetAt.here; repeat (first | exact Over.nil | apply Over.cons)) | apply SetAt.there))))) ?_
                refine WL.s (Yr.storeB hs (by rfl) (by rfl) (by rfl) (by repeat (first | exact Repl.here | apply Repl.there)) (by repeat (first | (apply SetAt.here; repeat (first | exact Over.nil | apply Over.cons)) | apply SetAt.there)) (by rfl) (by exact szf85)) ?_
                clear hs; rintro _ w hs
                refine WL.p (by rfl) (Yl.assign (by rfl)) ?_
                refine WL.next ?_
                refine WC.ret ?_
                refine At.blockret ?_
                refine At.thenret ?_
                refine At.thenret ?_
                refine At.blockret ?_
                refine At.thenret ?_
                refine fin2c rfl agg85 (by rfl) (by rfl) hs (by repeat (first | exact List.mem_cons_self | apply List.mem_cons_of_mem)) (by rfl) ?_
                refine RetP.mk hs ?_
                obtain ⟨L1, L2⟩ := line_hit (s := s) (i := (k : Int)) (by omega) (by omega) h2 hJ3
                clear hs
                cases hl : lineIs s with
                | false =>
                  simp only [implLine, hl]
                  first
                    | rfl
                    | (exfalso
                       cases hf : (cutC 32 s).2.2 with
                       | false => simp_all
                       | true =>
                         have L3 := L1 hf
                         clear L1 L2 hJ3 h2
                         simp_all [lineGood]
                         try omega)
                | true =>
                  cases hf : (cutC 32 s).2.2 with
                  | false => rw [L2 hf] at hl; cases hl
                  | true =>
                    have L3 := L1 hf
                    first
                      | (simp only [implLine, hl, L3.1]; rfl)
                      | (exfalso
                         clear L1 L2 hJ3 h2
                         rw [L3.2] at hl
                         simp_all [lineGood]
                         try omega)
            ·
              replace h6 := not_eq_false h6
              replace h6 := of_decide_eq_true h6
              refine WL.skip (d := 42) (by rfl) (by rfl) (by rfl) (by rfl) ?_
              refine WL.skip (d := 42) (by rfl) (by rfl) (by rfl) (by rfl) ?_
              refine WL.skip (d := 42) (by rfl) (by rfl) (by rfl) (by rfl) ?_
              refine WL.run (d := 39) (by rfl) (by rfl) ?_
              refine WL.p (by rfl) (Yl.pickF (by rfl) (by rfl)) ?_
              refine WL.p (by rfl) (Yl.pickF (by rfl) (by rfl)) ?_
              refine WL.next ?_
              refine WC.condF (by rfl) ?_
              refine WC.skipn ?_
              refine WC.seq ?_
              refine WL.p (by rfl) (Yl.move (by rfl)) ?_
              refine WL.p (by rfl) (Yl.move (by rfl)) ?_
              refine WL.p (by rfl) (Yl.build bt85 (by rfl) (by repeat (first | exact Fill.nil | (apply Fill.cons; rfl; rfl; rfl; repeat (first | (apply SetAt.here; repeat (first | exact Over.nil | apply Over.cons)) | apply SetAt.there))))) ?_
              refine WL.s (Yr.storeB hs (by rfl) (by rfl) (by rfl) (by repeat (first | exact Repl.here | apply Repl.there)) (by repeat (first | (apply SetAt.here; repeat (first | exact Over.nil | apply Over.cons)) | apply SetAt.there)) (by rfl) (by exact szf85)) ?_
              clear hs; rintro _ w hs
              refine WL.p (by rfl) (Yl.assign (by rfl)) ?_
              refine WL.next ?_
              refine WC.ret ?_
              refine At.blockret ?_
              refine At.thenret ?_
              refine At.thenret ?_
              refine At.blockret ?_
              refine At.thenret ?_
              refine fin2c rfl agg85 (by rfl) (by rfl) hs (by repeat (first | exact List.mem_cons_self | apply List.mem_cons_of_mem)) (by rfl) ?_
              refine RetP.mk hs ?_
              obtain ⟨L1, L2⟩ := line_hit (s := s) (i := (k : Int)) (by omega) (by omega) h2 hJ3
              clear hs
              cases hl : lineIs s with
              | false =>
                simp only [implLine, hl]
                first
                  | rfl
                  | (exfalso
                     cases hf : (cutC 32 s).2.2 with
                     | false => simp_all
                     | true =>
                       have L3 := L1 hf
                       clear L1 L2 hJ3 h2
                       simp_all [lineGood]
                       try omega)
              | true =>
                cases hf : (cutC 32 s).2.2 with
                | false => rw [L2 hf] at hl; cases hl
                | true =>
                  have L3 := L1 hf
                  first
                    | (simp only [implLine, hl, L3.1]; rfl)
                    | (exfalso
                       clear L1 L2 hJ3 h2
                       rw [L3.2] at hl
                       simp_all [lineGood]
                       try omega)
  ·
    replace h1 := of_decide_eq_false h1
    refine WC.exit ?_
    refine At.thenexit ?_
    refine At.thenexit ?_
    refine At.blockexit ?_
    refine At.then_ ?_
    refine WC.seq ?_
    refine WL.p (by rfl) (Yl.build bt85 (by rfl) (by repeat (first | exact Fill.nil | (apply Fill.cons; rfl; rfl; rfl; repeat (first | (apply SetAt.here; repeat (first | exact Over.nil | apply Over.cons)) | apply SetAt.there))))) ?_
    refine WL.s (Yr.storeB hs (by rfl) (by rfl) (by rfl) (by repeat (first | exact Repl.here | apply Repl.there)) (by repeat (first | (apply SetAt.here; repeat (first | exact Over.nil | apply Over.cons)) | apply SetAt.there)) (by rfl) (by exact szf85)) ?_
    clear hs; rintro _ w hs
    refine WL.p (by rfl) (Yl.assign (by rfl)) ?_
    refine WL.next ?_
    refine WC.ret ?_
    refine fin2c rfl agg85 (by rfl) (by rfl) hs (by repeat (first | exact List.mem_cons_self | apply List.mem_cons_of_mem)) (by rfl) ?_
    refine RetP.mk hs ?_
    simp only [implLine, line_none (s := s) (fun j a b => hJ3 j a (by omega))]; rfl

theorem c_impl_ParseScript (s : Str) (w : World)  (hb : s.length ≤ 2097152) (hm_ : ∃ m, w.cell? ⟨0, 0, none⟩ = some (.int .i64 m)) : Calls Tryd.prog 12 [S s].toArray w (Ret w (fun v w' => ∃ x : Sl TLine, v = .tuple #[x.v, Bo (scriptIs s)] ∧ x.l = scriptLines s ∧ Fresh w x w')) := by
  refine enterN 39 Tryd.func12 rfl rfl rfl ?_
  have hs := Sat.start w
  refine WC.seq ?_
  refine WL.p (by rfl) (Yl.assign (by rfl)) ?_
  refine WL.p (by rfl) (Yl.assign (by rfl)) ?_
  refine WL.next ?_
  refine WC.seq' ?_
  refine WC.seq ?_
  refine WL.p (by rfl) (Yl.move (by rfl)) ?_
  refine WL.p (by rfl) (Yl.eqs (by rfl) (by rfl)) ?_
  refine WL.next ?_
  refine WC.condS (by rfl) (fun h1 => ?_) (fun h1 => ?_)
  ·
    replace h1 := of_decide_eq_true h1
    refine WC.seq ?_
    refine WL.r (by rfl) (Yr.buildSlice hs sll22 (by rfl) (by rfl) (by rfl) (by repeat (first | exact Fill.nil | (apply Fill.cons; rfl; rfl; rfl; repeat (first | (apply SetAt.here; repeat (first | exact Over.nil | apply Over.cons)) | apply SetAt.there)))) (by rfl)) ?_
    clear hs; rintro _ w ⟨b1, rfl, hb, hs⟩; clear hb
    refine WL.p (by rfl) (Yl.assign (by rfl)) ?_
    refine WL.p (by rfl) (Yl.assign (by rfl)) ?_
    refine WL.next ?_
    refine WC.ret ?_
    refine At.thenret ?_
    refine fin2' rfl (by rfl) (by rfl) ?_
    refine Ret.mk hs ?_
    replace hs := Sat.boxow (l := ([] : List TLine)) (hs.sel (D := [box b1 _ _]) (by repeat (first | exact Sel.nil | (apply Sel.cons; (repeat (first | exact Ext.here | apply Ext.there)))))) rfl rfl (by simp) (ownL_mk_flat (by simp))
    first
      | exact ⟨⟨[], some ⟨b1, 0, none⟩, 0⟩, by rw [scriptIs_nil h1]; rfl, (scriptLines_nil h1).symm, hs.fresh List.mem_cons_self⟩
      | (replace hx3 : x3.l = splitC 59 s := hx3
         have hb9 : scriptIs s = false := by
           cases hld : lineIs d with
           | false => exact scriptIs_bad h1 (k := k) (d := d) (by rw [← hx3]; exact hd) hld
           | true =>
             refine scriptIs_long h1 ?_
             rw [← hx3]
             first
               | omega
               | (exfalso; simp_all; done)
         exact ⟨⟨[], some ⟨b1, 0, none⟩, 0⟩, by rw [hb9]; rfl, (scriptLines_bad hb9).symm, hs.fresh List.mem_cons_self⟩)
  ·
    replace h1 := of_decide_eq_false h1
    refine WC.skipn ?_
    refine WC.seq ?_
    refine WL.r (by rfl) (Yr.buildSlice hs sll22 (by rfl) (by rfl) (by rfl) (by repeat (first | exact Fill.nil | (apply Fill.cons; rfl; rfl; rfl; repeat (first | (apply SetAt.here; repeat (first | exact Over.nil | apply Over.cons)) | apply SetAt.there)))) (by rfl)) ?_
    clear hs; rintro _ w ⟨b2, rfl, hb, hs⟩; clear hb
    refine WL.p (by rfl) (Yl.assign (by rfl)) ?_
    refine WL.next ?_
    refine WC.seq' ?_
    refine WC.seq ?_
    refine WL.p (by rfl) (Yl.move (by rfl)) ?_
    refine WL.call hs (by rfl) (Yc.func (by rfl) fn52) (c_strings_Split _ _ _ (by first | assumption | omega | (simp only [lsz] at *; omega) | (simp only [lsz, strsz, TPolicy.size, TCache.size, TAddr.size, TRequest.size, TEntry.size, TResponse.size, TLine.size] at *; omega) | (simp only [lsz_map, TPage.size, TBuilder.size, TNode.size, TToken.size, TTokenizer.size, TServer.size, TFile.size, TNet.size, TCache.size, TSheet.size, strsz] at *; omega) | (simp only [lsz_map, TPage.size, TBuilder.size, TNode.size, TToken.size, TTokenizer.size, TServer.size, TFile.size, TNet.size, TCache.size, TSheet.size, strsz, lsz] at *; omega)) (by rfl) (by first | assumption | exact Sat.cellm hs (by assumption))) ?_
    have hs0 := hs; clear hs; intro v w hb hR hs; clear hs
    obtain ⟨x3, rfl, hx3, hf3⟩ := hR
    obtain ⟨F3, hs⟩ := hf3.sat hs0 hb; clear hs0 hf3
    refine WL.p (by rfl) (Yl.len_sl slu35 (by rfl)) ?_
    refine WL.p (by rfl) (Yl.move (by rfl)) ?_
    refine WL.next ?_
    refine WC.block ?_
    replace hs := Sat.boxow (l := ([] : List TLine)) (hs.sel (D := [box b2 _ _, ow x3 F3]) (by repeat (first | exact Sel.nil | (apply Sel.cons; (repeat (first | exact Ext.here | apply Ext.there)))))) rfl rfl (by simp) (ownL_mk_flat (by simp))
    refine WC.loopC (ι := Nat × Sl TLine × List Nat) (fun ⟨k, q, F⟩ => x3.l.length - k) (fun ⟨k, q, F⟩ => [(16, I (k : Int)), (4, q.v)]) (fun ⟨k, q, F⟩ => [ow q F, ow x3 F3]) (fun ⟨k, q, F⟩ => k ≤ x3.l.length ∧ q.l = (x3.l.take k).map implLine ∧ (x3.l.take k).all lineIs = true ∧ k ≤ 6) [(0, _), (9, _), (10, _), (12, _), (13, _), (14, _), (15, _)] (0, ⟨[], some ⟨b2, 0, none⟩, 0⟩, [b2]) (hs.sel (D := [ow (⟨[], some ⟨b2, 0, none⟩, 0⟩ : Sl TLine) [b2], ow x3 F3]) (by repeat (first | exact Sel.nil | (apply Sel.cons; (repeat (first | exact Ext.here | apply Ext.there)))))) ⟨by rfl, by rfl, by rfl, by rfl, by rfl, by rfl, by rfl, trivial⟩ ⟨by rfl, by rfl, trivial⟩ ?_ ?_
    ·
      exact ⟨Nat.zero_le _, rfl, rfl, Nat.zero_le _⟩
    clear hs; rintro ⟨k, q, F⟩ w ⟨hJ1, hJ2, hJ3, hJ4⟩ hs
    simp only [List.cons_append, List.nil_append] at hs
    have hxl : x3.l.length ≤ s.length + 1 := by rw [hx3]; exact splitC_len _ _
    refine WC.seq ?_
    refine WL.p (by rfl) (Yl.lss (by rfl) (by rfl)) ?_
    refine WL.next ?_
    refine WC.seq' ?_
    refine WC.condS (by rfl) (fun h2 => ?_) (fun h2 => ?_)
    ·
      replace h2 := of_decide_eq_true h2
      obtain ⟨d, hd⟩ := exists_get (l := x3.l) (k := k) (by omega)
      have hdl : d.length ≤ s.length := splitC_mem_le (b := 59) (by rw [← show x3.l = splitC 59 s from hx3]; exact List.mem_of_getElem? hd)
      have hql : q.l.length = k := by rw [hJ2]; simp; omega
      refine WC.skipn ?_
      refine WC.seq' ?_
      refine WC.block ?_
      refine WC.seq ?_
      refine WL.p (by rfl) (Yl.indexAddr slt35 (by rfl) (by rfl) (hs.okow (x := x3) (F := F3) (by repeat (first | exact List.mem_cons_self | apply List.mem_cons_of_mem))) (by rfl) (hd)) ?_
      refine WL.p (by rfl) (Yl.loadC0 sca9 (by rfl) (Sl.Ok.at_ (hs.okow (x := x3) (F := F3) (by repeat (first | exact List.mem_cons_self | apply List.mem_cons_of_mem))) (by assumption)).2 (by rfl)) ?_
      refine WL.p (by rfl) (Yl.assign (by rfl)) ?_
      refine WL.next ?_
      refine WC.seq ?_
      refine WL.p (by rfl) (Yl.move (by rfl)) ?_
      refine WL.callp hs (by rfl) (Yc.func (by rfl) fn53) (c_impl_parseLine _ _ (by omega) (by first | assumption | exact Sat.cellm hs (by assumption))) ?_
      clear hs; intro w hs
      refine WL.p (by rfl) (Yl.move (by rfl)) ?_
      refine WL.p (by rfl) (Yl.extract (by rfl) (by rfl)) ?_
      refine WL.p (by rfl) (Yl.extract (by rfl) (by rfl)) ?_
      refine WL.r (by rfl) (Yr.alloc hs zt85) ?_
      clear hs; rintro _ w ⟨b4, rfl, hb, hs⟩; clear hb
      refine WL.s (Yr.storeB hs (by rfl) (by rfl) (by rfl) (by repeat (first | exact Repl.here | apply Repl.there)) (by repeat (first | (apply SetAt.here; repeat (first | exact Over.nil | apply Over.cons)) | apply SetAt.there)) (by rfl) (by exact szf85)) ?_
      clear hs; rintro _ w hs
      refine WL.p (by rfl) (Yl.assign (by rfl)) ?_
      refine WL.next ?_
      refine WC.seq' ?_
      refine WC.seq ?_
      refine WL.p (by rfl) (Yl.move (by rfl)) ?_
      refine WL.p (by rfl) (Yl.not (by rfl)) ?_
      refine WL.p (by rfl) (Yl.move (by rfl)) ?_
      refine WL.split (d := 27) (by rfl) (fun h3 => ?_) (fun h3 => ?_)
      ·
        replace h3 := not_eq_true h3
        refine WL.skip (d := 27) (by rfl) (by rfl) (by rfl) (by rfl) ?_
        refine WL.skip (d := 27) (by rfl) (by rfl) (by rfl) (by rfl) ?_
        refine WL.skip (d := 27) (by rfl) (by rfl) (by rfl) (by rfl) ?_
        refine WL.p (by rfl) (Yl.pickT (by rfl) (by rfl)) ?_
        refine WL.next ?_
        refine WC.condT (by rfl) ?_
        refine WC.seq ?_
        refine WL.r (by rfl) (Yr.buildSlice hs sll22 (by rfl) (by rfl) (by rfl) (by repeat (first | exact Fill.nil | (apply Fill.cons; rfl; rfl; rfl; repeat (first | (apply SetAt.here; repeat (first | exact Over.nil | apply Over.cons)) | apply SetAt.there)))) (by rfl)) ?_
        clear hs; rintro _ w ⟨b5, rfl, hb, hs⟩; clear hb
        refine WL.p (by rfl) (Yl.assign (by rfl)) ?_
        refine WL.p (by rfl) (Yl.assign (by rfl)) ?_
        refine WL.next ?_
        refine WC.ret ?_
        refine At.thenret ?_
        refine At.blockret ?_
        refine At.thenret ?_
        refine At.thenret ?_
        refine At.blockret ?_
        refine At.thenret ?_
        refine fin2' rfl (by rfl) (by rfl) ?_
        refine Ret.mk hs ?_
        replace hs := Sat.boxow (l := ([] : List TLine)) (hs.sel (D := [box b5 _ _]) (by repeat (first | exact Sel.nil | (apply Sel.cons; (repeat (first | exact Ext.here | apply Ext.there)))))) rfl rfl (by simp) (ownL_mk_flat (by simp))
        first
          | exact ⟨⟨[], some ⟨b5, 0, none⟩, 0⟩, by rw [scriptIs_nil h1]; rfl, (scriptLines_nil h1).symm, hs.fresh List.mem_cons_self⟩
          | (replace hx3 : x3.l = splitC 59 s := hx3
             have hb9 : scriptIs s = false := by
               cases hld : lineIs d with
               | false => exact scriptIs_bad h1 (k := k) (d := d) (by rw [← hx3]; exact hd) hld
               | true =>
                 refine scriptIs_long h1 ?_
                 rw [← hx3]
                 first
                   | omega
                   | (exfalso; simp_all; done)
             exact ⟨⟨[], some ⟨b5, 0, none⟩, 0⟩, by rw [hb9]; rfl, (scriptLines_bad hb9).symm, hs.fresh List.mem_cons_self⟩)
      ·
        replace h3 := not_eq_false h3
        refine WL.run (d := 27) (by rfl) (by rfl) ?_
        refine WL.p (by rfl) (Yl.move (by rfl)) ?_
        refine WL.run (d := 27) (by rfl) (by rfl) ?_
        refine WL.p (by rfl) (Yl.len_sl slu22 (by rfl)) ?_
        refine WL.run (d := 27) (by rfl) (by rfl) ?_
        refine WL.p (by rfl) (Yl.eqi (by rfl) (by rfl)) ?_
        refine WL.p (by rfl) (Yl.pickF (by rfl) (by rfl)) ?_
        refine WL.next ?_
        refine WC.condS (by rfl) (fun h4 => ?_) (fun h4 => ?_)
        ·
          replace h4 := of_decide_eq_true h4
          refine WC.seq ?_
          refine WL.r (by rfl) (Yr.buildSlice hs sll22 (by rfl) (by rfl) (by rfl) (by repeat (first | exact Fill.nil | (apply Fill.cons; rfl; rfl; rfl; repeat (first | (apply SetAt.here; repeat (first | exact Over.nil | apply Over.cons)) | apply SetAt.there)))) (by rfl)) ?_
          clear hs; rintro _ w ⟨b6, rfl, hb, hs⟩; clear hb
          refine WL.p (by rfl) (Yl.assign (by rfl)) ?_
          refine WL.p (by rfl) (Yl.assign (by rfl)) ?_
          refine WL.next ?_
          refine WC.ret ?_
          refine At.thenret ?_
          refine At.blockret ?_
          refine At.thenret ?_
          refine At.thenret ?_
          refine At.blockret ?_
          refine At.thenret ?_
          refine fin2' rfl (by rfl) (by rfl) ?_
          refine Ret.mk hs ?_
          replace hs := Sat.boxow (l := ([] : List TLine)) (hs.sel (D := [box b6 _ _]) (by repeat (first | exact Sel.nil | (apply Sel.cons; (repeat (first | exact Ext.here | apply Ext.there)))))) rfl rfl (by simp) (ownL_mk_flat (by simp))
          first
            | exact ⟨⟨[], some ⟨b6, 0, none⟩, 0⟩, by rw [scriptIs_nil h1]; rfl, (scriptLines_nil h1).symm, hs.fresh List.mem_cons_self⟩
            | (replace hx3 : x3.l = splitC 59 s := hx3
               have hb9 : scriptIs s = false := by
                 cases hld : lineIs d with
                 | false => exact scriptIs_bad h1 (k := k) (d := d) (by rw [← hx3]; exact hd) hld
                 | true =>
                   refine scriptIs_long h1 ?_
                   rw [← hx3]
                   first
                     | omega
                     | (exfalso; simp_all; done)
               exact ⟨⟨[], some ⟨b6, 0, none⟩, 0⟩, by rw [hb9]; rfl, (scriptLines_bad hb9).symm, hs.fresh List.mem_cons_self⟩)
        ·
          replace h4 := of_decide_eq_false h4
          refine WC.skipn ?_
          refine WC.region ?_
          refine WL.p (by rfl) (Yl.move (by rfl)) ?_
          refine WL.p (by rfl) (Yl.loadAB agg85 (by rfl) hs (by repeat (first | exact List.mem_cons_self | apply List.mem_cons_of_mem)) (by rfl) (by rfl)) ?_
          refine WL.r (by rfl) (Yr.buildSlice hs sll22 (by rfl) (by rfl) (by rfl) (by repeat (first | exact Fill.nil | (apply Fill.cons; rfl; rfl; rfl; repeat (first | (apply SetAt.here; repeat (first | exact Over.nil | apply Over.cons)) | apply SetAt.there)))) (by rfl)) ?_
          clear hs; rintro _ w ⟨b7, rfl, hb, hs⟩; clear hb
          refine WL.r (by rfl) (Yr.append (s := q) (F := F) hs elt22 (by repeat (first | exact Sel.nil | (apply Sel.cons; (repeat (first | exact Ext.here | apply Ext.there))))) (by rfl) (by rfl) rfl (xs := [implLine d]) (hs.box_cells (by repeat (first | exact List.mem_cons_self | apply List.mem_cons_of_mem))) (by intro x hx; obtain rfl := List.mem_singleton.1 hx; exact implLine_ok (by omega)) (by rw [hJ2]; simp; unfold maxLen; omega) (by rw [hJ2]; simp; omega)) ?_
          clear hs; rintro _ w ⟨s8, F8, rfl, hl8, hs⟩
          refine WL.p (by rfl) (Yl.assign (by rfl)) ?_
          refine WL.nil ?_
          refine At.blocknormal ?_
          refine At.then_ ?_
          refine WC.region ?_
          refine WL.p (by rfl) (Yl.add (by rfl) (by rfl) (by omega)) ?_
          refine WL.p (by rfl) (Yl.move (by rfl)) ?_
          refine WL.nil ?_
          refine At.roundC (k + 1, s8, F8) (hs.only (by repeat (first | exact Sel.nil | (apply Sel.cons; (repeat (first | exact Ext.here | apply Ext.there)))))) ⟨by rfl, by rfl, by rfl, by rfl, by rfl, by rfl, by rfl, trivial⟩ ⟨by rfl, by rfl, trivial⟩ ?_ ?_
          ·
            show x3.l.length - (k + 1) < x3.l.length - k
            omega
          ·
            exact ⟨by omega, by rw [hl8, hJ2]; exact map_step hd, all_step hd hJ3 (by simp_all), by omega⟩
    ·
      replace h2 := of_decide_eq_false h2
      refine WC.exit ?_
      refine At.thenexit ?_
      refine At.thenexit ?_
      refine At.blockexit ?_
      refine At.then_ ?_
      refine WC.seq ?_
      refine WL.p (by rfl) (Yl.move (by rfl)) ?_
      refine WL.p (by rfl) (Yl.assign (by rfl)) ?_
      refine WL.p (by rfl) (Yl.assign (by rfl)) ?_
      refine WL.next ?_
      refine WC.ret ?_
      refine fin2' rfl (by rfl) (by rfl) ?_
      refine Ret.mk hs ?_
      replace hx3 : x3.l = splitC 59 s := hx3
      have hk : k = x3.l.length := by omega
      have hne : 0 < (splitC 59 s).length := List.length_pos_iff.2 (splitC_ne 59 s)
      rw [hk, List.take_length] at hJ2 hJ3
      rw [hx3] at hJ2 hJ3
      have hg9 : scriptIs s = true := scriptIs_good hJ3 (by first | (rw [← hx3]; exact hJ4 (by rw [hk, hx3]; exact hne)) | (rw [← hx3, ← hk]; exact hJ4))
      exact ⟨q, by rw [hg9], by rw [scriptLines_good h1 hg9, hJ2, implLine_map hJ3], hs.fresh (by repeat (first | exact List.mem_cons_self | apply List.mem_cons_of_mem))⟩

theorem c_laws_eqLine (a : TLine) (b : TLine) (w : World)   : Calls Tryd.prog 54 [.agg #[I a.op, S a.text], .agg #[I b.op, S b.text]].toArray w (RetP w (Bo (decide (a = b)))) := by
  refine enterN 15 Tryd.func54 rfl rfl rfl ?_
  have hs := Sat.start w
  refine WC.seq ?_
  refine WL.r (by rfl) (Yr.box hs (by rfl) (by rfl)) ?_
  clear hs; rintro _ w ⟨b1, rfl, hb, hs⟩; clear hb
  refine WL.r (by rfl) (Yr.box hs (by rfl) (by rfl)) ?_
  clear hs; rintro _ w ⟨b2, rfl, hb, hs⟩; clear hb
  refine WL.p (by rfl) (Yl.assign (by rfl)) ?_
  refine WL.next ?_
  refine WC.seq' ?_
  refine WC.seq ?_
  refine WL.p (by rfl) (Yl.fieldAddr fa85_0 (by rfl)) ?_
  refine WL.p (by rfl) (Yl.loadB sca3 (by rfl) hs (by repeat (first | exact List.mem_cons_self | apply List.mem_cons_of_mem)) (by rfl)) ?_
  refine WL.p (by rfl) (Yl.fieldAddr fa85_0 (by rfl)) ?_
  refine WL.p (by rfl) (Yl.loadB sca3 (by rfl) hs (by repeat (first | exact List.mem_cons_self | apply List.mem_cons_of_mem)) (by rfl)) ?_
  refine WL.p (by rfl) (Yl.nei (by rfl) (by rfl)) ?_
  refine WL.next ?_
  refine WC.condS (by rfl) (fun h1 => ?_) (fun h1 => ?_)
  ·
    replace h1 := not_eq_true h1
    replace h1 := of_decide_eq_false h1
    refine WC.seq ?_
    refine WL.p (by rfl) (Yl.assign (by rfl)) ?_
    refine WL.next ?_
    refine WC.ret ?_
    refine At.thenret ?_
    refine fin1' rfl (by rfl) ?_
    refine RetP.mk hs ?_
    simp_all [TLine.ext_iff]
  ·
    replace h1 := not_eq_false h1
    replace h1 := of_decide_eq_true h1
    refine WC.skipn ?_
    refine WC.seq' ?_
    refine WC.seq ?_
    refine WL.p (by rfl) (Yl.fieldAddr fa85_1 (by rfl)) ?_
    refine WL.p (by rfl) (Yl.loadB sca9 (by rfl) hs (by repeat (first | exact List.mem_cons_self | apply List.mem_cons_of_mem)) (by rfl)) ?_
    refine WL.p (by rfl) (Yl.fieldAddr fa85_1 (by rfl)) ?_
    refine WL.p (by rfl) (Yl.loadB sca9 (by rfl) hs (by repeat (first | exact List.mem_cons_self | apply List.mem_cons_of_mem)) (by rfl)) ?_
    refine WL.p (by rfl) (Yl.nes (by rfl) (by rfl)) ?_
    refine WL.next ?_
    refine WC.condS (by rfl) (fun h2 => ?_) (fun h2 => ?_)
    ·
      replace h2 := not_eq_true h2
      replace h2 := of_decide_eq_false h2
      refine WC.seq ?_
      refine WL.p (by rfl) (Yl.assign (by rfl)) ?_
      refine WL.next ?_
      refine WC.ret ?_
      refine At.thenret ?_
      refine fin1' rfl (by rfl) ?_
      refine RetP.mk hs ?_
      simp_all [TLine.ext_iff]
    ·
      replace h2 := not_eq_false h2
      replace h2 := of_decide_eq_true h2
      refine WC.skipn ?_
      refine WC.seq ?_
      refine WL.p (by rfl) (Yl.assign (by rfl)) ?_
      refine WL.next ?_
      refine WC.ret ?_
      refine fin1' rfl (by rfl) ?_
      refine RetP.mk hs ?_
      simp_all [TLine.ext_iff]

theorem c_laws_eqLineS (a : (Sl TLine)) (b : (Sl TLine)) (w : World) (h_a : Ph.ok w a) (h_b : Ph.ok w b)  : Calls Tryd.prog 13 [Sl.v a, Sl.v b].toArray w (RetP w (Bo (decide (a.l = b.l)))) := by
  have hw := h_a.lt
  refine enterN 27 Tryd.func13 rfl rfl rfl ?_
  have hs := Sat.start w
  refine WC.seq ?_
  refine WL.p (by rfl) (Yl.assign (by rfl)) ?_
  refine WL.next ?_
  refine WC.seq' ?_
  refine WC.seq ?_
  refine WL.p (by rfl) (Yl.move (by rfl)) ?_
  refine WL.p (by rfl) (Yl.len_sl slu22 (by rfl)) ?_
  refine WL.p (by rfl) (Yl.move (by rfl)) ?_
  refine WL.p (by rfl) (Yl.len_sl slu22 (by rfl)) ?_
  refine WL.p (by rfl) (Yl.nei (by rfl) (by rfl)) ?_
  refine WL.next ?_
  refine WC.condS (by rfl) (fun h1 => ?_) (fun h1 => ?_)
  ·
    replace h1 := not_eq_true h1
    replace h1 := of_decide_eq_false h1
    refine WC.seq ?_
    refine WL.p (by rfl) (Yl.assign (by rfl)) ?_
    refine WL.next ?_
    refine WC.ret ?_
    refine At.thenret ?_
    refine fin1' rfl (by rfl) ?_
    refine RetP.mk hs ?_
    have hne : ¬ a.l = b.l := by
      intro h
      have h2 := congrArg List.length h
      try simp at h2
      omega
    simp only [hne, decide_false]
  ·
    replace h1 := not_eq_false h1
    replace h1 := of_decide_eq_true h1
    refine WC.skipn ?_
    refine WC.seq' ?_
    refine WC.seq ?_
    refine WL.p (by rfl) (Yl.assign (by rfl)) ?_
    refine WL.next ?_
    refine WC.block ?_
    refine WC.loopC (ι := Nat) (fun k => a.l.length - k) (fun k => [(5, I (k : Int))]) (fun _ => []) (fun k => decide (a.l = b.l) = decide (a.l.drop k = b.l.drop k)) [(0, _), (1, _), (6, _), (7, _), (8, _), (9, _), (10, _)] 0 (hs) ⟨by rfl, by rfl, by rfl, by rfl, by rfl, by rfl, by rfl, trivial⟩ ⟨by rfl, trivial⟩ ?_ ?_
    ·
      simp
    clear hs; rintro k w hJ hs
    simp only [List.nil_append] at hs
    refine WC.seq' ?_
    refine WC.seq ?_
    refine WL.p (by rfl) (Yl.move (by rfl)) ?_
    refine WL.p (by rfl) (Yl.move (by rfl)) ?_
    refine WL.p (by rfl) (Yl.len_sl slu22 (by rfl)) ?_
    refine WL.p (by rfl) (Yl.lss (by rfl) (by rfl)) ?_
    refine WL.next ?_
    refine WC.condS (by rfl) (fun h2 => ?_) (fun h2 => ?_)
    ·
      replace h2 := of_decide_eq_true h2
      obtain ⟨d, hd⟩ := exists_get (l := a.l) (k := k) (by omega)
      obtain ⟨d2, hd2⟩ := exists_get (l := b.l) (k := k) (by omega)
      rw [drop_cons hd, drop_cons hd2] at hJ
      refine WC.skipn ?_
      refine WC.seq' ?_
      refine WC.block ?_
      refine WC.quietn mixed (by kernel_rfl) hs ?_
      refine WQ.p (by rfl) (fun w hs => Yl.move (by rfl)) ?_
      refine WQ.p (by rfl) (fun w hs => Yl.move (by rfl)) ?_
      refine WQ.p (by rfl) (fun w hs => Yl.indexAddr slt22 (by rfl) (by rfl) (Ph.old h_a hs) (by rfl) (hd)) ?_
      refine WQ.p (by rfl) (fun w hs => Yl.loadA agg85 (by rfl) (Sl.Ok.at_ (Ph.old h_a hs) (by assumption)).2 (by rfl)) ?_
      refine WQ.p (by rfl) (fun w hs => Yl.move (by rfl)) ?_
      refine WQ.p (by rfl) (fun w hs => Yl.move (by rfl)) ?_
      refine WQ.p (by rfl) (fun w hs => Yl.indexAddr slt22 (by rfl) (by rfl) (Ph.old h_b hs) (by rfl) (hd2)) ?_
      refine WQ.p (by rfl) (fun w hs => Yl.loadA agg85 (by rfl) (Sl.Ok.at_ (Ph.old h_b hs) (by assumption)).2 (by rfl)) ?_
      refine WQ.callp (by rfl) (fun w => Yc.func (by rfl) fn54) (fun w hs => (c_laws_eqLine _ _ _)) (fun _ _ hs hb => hs.ext hb) ?_
      refine WQ.p (by rfl) (fun w hs => Yl.not (by rfl)) ?_
      refine WQ.next ?_
      clear hs; intro w hs
      refine WC.condS (by rfl) (fun h3 => ?_) (fun h3 => ?_)
      ·
        replace h3 := not_eq_true h3
        replace h3 := of_decide_eq_false h3
        refine WC.seq ?_
        refine WL.p (by rfl) (Yl.assign (by rfl)) ?_
        refine WL.next ?_
        refine WC.ret ?_
        refine At.blockret ?_
        refine At.thenret ?_
        refine At.thenret ?_
        refine At.blockret ?_
        refine At.thenret ?_
        refine fin1' rfl (by rfl) ?_
        refine RetP.mk hs ?_
        rw [hJ]; simp_all
      ·
        replace h3 := not_eq_false h3
        replace h3 := of_decide_eq_true h3
        refine WC.skip ?_
        refine At.blocknormal ?_
        refine At.then_ ?_
        refine WC.region ?_
        refine WL.p (by rfl) (Yl.move (by rfl)) ?_
        refine WL.p (by rfl) (Yl.add (by rfl) (by rfl) (by omega)) ?_
        refine WL.p (by rfl) (Yl.assign (by rfl)) ?_
        refine WL.nil ?_
        refine At.roundC (k + 1) (hs.only (by repeat (first | exact Sel.nil | (apply Sel.cons; (repeat (first | exact Ext.here | apply Ext.there)))))) ⟨by rfl, by rfl, by rfl, by rfl, by rfl, by rfl, by rfl, trivial⟩ ⟨by rfl, trivial⟩ ?_ ?_
        ·
          omega
        ·
          rw [hJ]; simp_all
    ·
      replace h2 := of_decide_eq_false h2
      rw [drop_out (l := a.l) (by omega), drop_out (l := b.l) (by omega)] at hJ
      refine WC.exit ?_
      refine At.thenexit ?_
      refine At.thenexit ?_
      refine At.blockexit ?_
      refine At.then_ ?_
      refine WC.seq ?_
      refine WL.p (by rfl) (Yl.assign (by rfl)) ?_
      refine WL.next ?_
      refine WC.ret ?_
      refine fin1' rfl (by rfl) ?_
      refine RetP.mk hs ?_
      rw [hJ]; simp_all

theorem c_laws_markText (k : Int) (w : World)  (hk : k ≤ 1000000000) : Calls Tryd.prog 55 [I k].toArray w (RetP w (S (mkT k))) := by
  refine enterN 20 Tryd.func55 rfl rfl rfl ?_
  have hs := Sat.start w
  refine WC.seq ?_
  refine WL.p (by rfl) (Yl.assign (by rfl)) ?_
  refine WL.next ?_
  refine WC.seq' ?_
  refine WC.seq ?_
  refine WL.p (by rfl) (Yl.move (by rfl)) ?_
  refine WL.p (by rfl) (Yl.leq (by rfl) (by rfl)) ?_
  refine WL.next ?_
  refine WC.condS (by rfl) (fun h1 => ?_) (fun h1 => ?_)
  ·
    replace h1 := of_decide_eq_true h1
    refine WC.seq ?_
    refine WL.p (by rfl) (Yl.assign (by rfl)) ?_
    refine WL.next ?_
    refine WC.ret ?_
    refine At.thenret ?_
    refine fin1' rfl (by rfl) ?_
    refine RetP.mk hs ?_
    rw [mkT_out (by omega)]
  ·
    replace h1 := of_decide_eq_false h1
    refine WC.skipn ?_
    refine WC.seq ?_
    refine WL.p (by rfl) (Yl.assign (by rfl)) ?_
    refine WL.next ?_
    refine WC.seq' ?_
    refine WC.block ?_
    refine WC.loopC (ι := Nat × Str) (fun ⟨n, o⟩ => n) (fun ⟨n, o⟩ => [(0, I (n : Int)), (3, S o)]) (fun _ => []) (fun ⟨n, o⟩ => digs k.toNat [] = digs n o ∧ o.length + n ≤ 1000000000) [(2, _), (4, _), (5, _)] (k.toNat, []) (hs) ⟨by rfl, by rfl, by rfl, trivial⟩ ⟨by exact congrArg (fun z => some (I z)) (by omega), by rfl, trivial⟩ ?_ ?_
    ·
      exact ⟨rfl, by simp; omega⟩
    clear hs; rintro ⟨n, o⟩ w ⟨hJ1, hJ2⟩ hs
    simp only [List.nil_append] at hs
    refine WC.seq' ?_
    refine WC.seq ?_
    refine WL.p (by rfl) (Yl.move (by rfl)) ?_
    refine WL.p (by rfl) (Yl.gtr (by rfl) (by rfl)) ?_
    refine WL.next ?_
    refine WC.condS (by rfl) (fun h2 => ?_) (fun h2 => ?_)
    ·
      replace h2 := of_decide_eq_true h2
      refine WC.skipn ?_
      refine WC.block ?_
      refine WC.seq ?_
      refine WL.p (by rfl) (Yl.move (by rfl)) ?_
      refine WL.p (by rfl) (Yl.remw (by rfl) (by rfl) (by decide)) ?_
      refine WL.p (by rfl) (Yl.add (by rfl) (by rfl) (by first | (rw [tmod10]; omega) | (simp; omega))) ?_
      refine WL.p (by rfl) (Yl.intByte (c := UInt8.ofNat (48 + n % 10)) (by kernel_rfl) u8t5 (by rfl) (by rw [digit_nat, tmod10]; omega)) ?_
      refine WL.r (by rfl) (Yr.buildSlice hs sll120 (by rfl) (by rfl) (by rfl) (by repeat (first | exact Fill.nil | (apply Fill.cons; rfl; rfl; rfl; repeat (first | (apply SetAt.here; repeat (first | exact Over.nil | apply Over.cons)) | apply SetAt.there)))) (by rfl)) ?_
      clear hs; rintro _ w ⟨b1, rfl, hb, hs⟩; clear hb
      refine WL.p (by rfl) (Yl.bytesStr (l := [UInt8.ofNat (48 + n % 10)]) slu120 u8t5 str9 (by rfl) (hs.box_cells (by repeat (first | exact List.mem_cons_self | apply List.mem_cons_of_mem))) (by rfl) (by rfl)) ?_
      refine WL.p (by rfl) (Yl.move (by rfl)) ?_
      refine WL.p (by rfl) (Yl.cat (by rfl) (by rfl) (by first | (rw [tmod10]; omega) | (simp; omega))) ?_
      refine WL.p (by rfl) (Yl.assign (by rfl)) ?_
      refine WL.next ?_
      refine WC.region ?_
      refine WL.p (by rfl) (Yl.move (by rfl)) ?_
      refine WL.p (by rfl) (Yl.quow (by rfl) (by rfl) (by decide)) ?_
      refine WL.p (by rfl) (Yl.assign (by rfl)) ?_
      refine WL.nil ?_
      refine At.blocknormal ?_
      refine At.roundC (n / 10, UInt8.ofNat (48 + n % 10) :: o) (hs.only (by repeat (first | exact Sel.nil | (apply Sel.cons; (repeat (first | exact Ext.here | apply Ext.there)))))) ⟨by rfl, by rfl, by rfl, trivial⟩ ⟨by exact congrArg (fun z => some (I z)) (quo10 (by omega)), by rfl, trivial⟩ ?_ ?_
      ·
        show n / 10 < n
        omega
      ·
        exact ⟨by rw [hJ1, digs_step (by omega)], by simp; omega⟩
    ·
      replace h2 := of_decide_eq_false h2
      refine WC.exit ?_
      refine At.thenexit ?_
      refine At.thenexit ?_
      refine At.blockexit ?_
      refine At.then_ ?_
      refine WC.seq ?_
      refine WL.p (by rfl) (Yl.move (by rfl)) ?_
      refine WL.p (by rfl) (Yl.cat (by rfl) (by rfl) (by first | (rw [tmod10]; omega) | (simp; omega))) ?_
      refine WL.p (by rfl) (Yl.assign (by rfl)) ?_
      refine WL.next ?_
      refine WC.ret ?_
      refine fin1' rfl (by rfl) ?_
      refine RetP.mk hs ?_
      rw [mkT_in (by omega), hJ1, show n = 0 from by omega, digs_zero]; rfl

theorem c_laws_markLineS (a : (Sl TLine)) (k : Int) (w : World) (F : List Nat) (hF : Own.own w a F) (hn : F.Nodup)  (hk0 : 0 ≤ k) (hk : k + ((costL (fun _ => 2) (a.l) : Nat) : Int) ≤ 100000000) : Calls Tryd.prog 14 [Sl.v a, I k].toArray w (RetM w a F (I (k + ((costL (fun _ => 2) (a.l) : Nat) : Int))) (fun a' => a'.l = mkL mkLine (fun _ => 2) k (a.l))) := by
  have hw := (Own.ok hF : Sl.Ok w a).lt
  have hk2 := hk
  rw [costL_const] at hk2
  refine enterN 28 Tryd.func14 rfl rfl rfl ?_
  have hs := Sat.markStart hF hn
  refine WC.seq ?_
  refine WL.p (by rfl) (Yl.assign (by rfl)) ?_
  refine WL.next ?_
  refine WC.seq' ?_
  refine WC.seq ?_
  refine WL.p (by rfl) (Yl.assign (by rfl)) ?_
  refine WL.next ?_
  refine WC.block ?_
  refine WC.loopC (ι := Nat × Sl TLine × List Nat × List TLine) (fun ⟨n, s, F1, p⟩ => a.l.length - n) (fun ⟨n, s, F1, p⟩ => [(5, I (n : Int)), (1, I (k + ((2 * n : Nat) : Int))), (0, s.v)]) (fun ⟨n, s, F1, p⟩ => [ow s F1]) (fun ⟨n, s, F1, p⟩ => n ≤ a.l.length ∧ s.v = a.v ∧ p.length = n ∧ s.l = p ++ a.l.drop n ∧ p = mkL mkLine (fun _ => 2) k (a.l.take n)) [(4, _)] (0, a, F, []) (hs.sel (D := [ow a F]) (by repeat (first | exact Sel.nil | (apply Sel.cons; (repeat (first | exact Ext.here | apply Ext.there)))))) ⟨by rfl, trivial⟩ ⟨by rfl, by exact congrArg (fun z => some (I z)) (by omega), by rfl, trivial⟩ ?_ ?_
  ·
    exact ⟨Nat.zero_le _, rfl, rfl, by simp, by simp [mkL]⟩
  clear hs; rintro ⟨n, s, F1, p⟩ w ⟨hJ1, hJ2, hJ3, hJ4, hJ5⟩ hs
  simp only [List.cons_append, List.nil_append] at hs
  refine WC.seq' ?_
  refine WC.seq ?_
  refine WL.p (by rfl) (Yl.move (by rfl)) ?_
  refine WL.p (by rfl) (Yl.move (by rfl)) ?_
  refine WL.p (by rfl) (Yl.len_sl slu22 (by rfl)) ?_
  refine WL.p (by rfl) (Yl.lss (by rfl) (by rfl)) ?_
  refine WL.next ?_
  refine WC.condS (by rfl) (fun h1 => ?_) (fun h1 => ?_)
  ·
    replace h1 := of_decide_eq_true h1
    have hsl : s.l.length = a.l.length := by rw [hJ4]; simp [hJ3]; omega
    obtain ⟨d, hd0⟩ := exists_get (l := a.l) (k := n) (by omega)
    have hd : s.l[n]? = some d := by rw [hJ4]; exact step_get hJ3 hd0
    have hkl : n < s.l.length := by omega
    refine WC.skipn ?_
    refine WC.seq' ?_
    refine WC.block ?_
    refine WC.seq ?_
    refine WL.p (by rfl) (Yl.move (by rfl)) ?_
    refine WL.p (by rfl) (Yl.move (by rfl)) ?_
    refine WL.p (by rfl) (Yl.move (by rfl)) ?_
    refine WL.p (by rfl) (Yl.indexAddr slt22 (by rfl) (by rfl) (hs.okow (x := s) (F := F1) (by repeat (first | exact List.mem_cons_self | apply List.mem_cons_of_mem))) (by rfl) (hd)) ?_
    refine WL.p (by rfl) (Yl.fieldAddr fa85_0 (by rfl)) ?_
    refine WL.s (Yr.storeP (s := s) (F := F1) (d := d) (u := (⟨(k + ((2 * n : Nat) : Int)), d.text⟩ : TLine)) (k := n) (j := 0) hs (by repeat (first | exact Sel.nil | (apply Sel.cons; (repeat (first | exact Ext.here | apply Ext.there))))) (by rfl) (by rfl) (by rfl) hd ⟨_, by rfl, by rfl⟩ (by repeat (first | (apply SetAt.here; repeat (first | exact Over.nil | apply Over.cons)) | apply SetAt.there)) (by exact own_part_flat ⟨(by exact (show WfI ((k + ((2 * n : Nat) : Int))) from ⟨by omega, by omega⟩)), (Sl.Ok.elem (hs.okow (x := s) (F := F1) (by repeat (first | exact List.mem_cons_self | apply List.mem_cons_of_mem))) hd).text⟩) (by rfl) (by exact szf3)) ?_
    clear hs; rintro _ w ⟨s1, _, rfl, hv1, hl1, hg1, hs⟩
    refine WL.next ?_
    refine WC.seq ?_
    refine WL.p (by rfl) (Yl.move (by rfl)) ?_
    refine WL.p (by rfl) (Yl.add (by rfl) (by rfl) (by omega)) ?_
    refine WL.p (by rfl) (Yl.assign (by rfl)) ?_
    refine WL.next ?_
    refine WC.seq ?_
    refine WL.p (by rfl) (Yl.move (by rfl)) ?_
    refine WL.p (by rfl) (Yl.move (by rfl)) ?_
    refine WL.p (by rfl) (Yl.move (by rfl)) ?_
    refine WL.callp hs (by rfl) (Yc.func (by rfl) fn55) (c_laws_markText _ _ (by omega)) ?_
    clear hs; intro w hs
    refine WL.p (by rfl) (Yl.indexAddrV slt22 (by rfl) hv1 (by rfl) (hs.okow (x := s1) (F := F1) (by repeat (first | exact List.mem_cons_self | apply List.mem_cons_of_mem))) (by rfl) (hg1)) ?_
    refine WL.p (by rfl) (Yl.fieldAddr fa85_1 (by rfl)) ?_
    refine WL.s (Yr.storeP (s := s1) (F := F1) (d := (⟨(k + ((2 * n : Nat) : Int)), d.text⟩ : TLine)) (u := (⟨(k + ((2 * n : Nat) : Int)), (mkT ((k + ((2 * n : Nat) : Int)) + 1))⟩ : TLine)) (k := n) (j := 1) hs (by repeat (first | exact Sel.nil | (apply Sel.cons; (repeat (first | exact Ext.here | apply Ext.there))))) (by rfl) (by rfl) (by rfl) hg1 ⟨_, by rfl, by rfl⟩ (by repeat (first | (apply SetAt.here; repeat (first | exact Over.nil | apply Over.cons)) | apply SetAt.there)) (by exact own_part_flat ⟨(Sl.Ok.elem (hs.okow (x := s1) (F := F1) (by repeat (first | exact List.mem_cons_self | apply List.mem_cons_of_mem))) hg1).op, (by first | exact (show WfS ((mkT ((k + ((2 * n : Nat) : Int)) + 1))) from mkT_len (by omega)) | assumption | (refine Ph.old ?_ hs; assumption))⟩) (by rfl) (by exact szf9)) ?_
    clear hs; rintro _ w ⟨s2, _, rfl, hv2, hl2, hg2, hs⟩
    refine WL.next ?_
    refine WC.region ?_
    refine WL.p (by rfl) (Yl.move (by rfl)) ?_
    refine WL.p (by rfl) (Yl.add (by rfl) (by rfl) (by omega)) ?_
    refine WL.p (by rfl) (Yl.assign (by rfl)) ?_
    refine WL.nil ?_
    refine At.blocknormal ?_
    refine At.then_ ?_
    refine WC.region ?_
    refine WL.p (by rfl) (Yl.move (by rfl)) ?_
    refine WL.p (by rfl) (Yl.add (by rfl) (by rfl) (by omega)) ?_
    refine WL.p (by rfl) (Yl.assign (by rfl)) ?_
    refine WL.nil ?_
    refine At.roundC (n + 1, s2, F1, p ++ [(⟨(k + ((2 * n : Nat) : Int)), (mkT ((k + ((2 * n : Nat) : Int)) + 1))⟩ : TLine)]) (hs.only (by repeat (first | exact Sel.nil | (apply Sel.cons; (repeat (first | exact Ext.here | apply Ext.there)))))) ⟨by rfl, trivial⟩ ⟨by rfl, by exact congrArg (fun z => some (I z)) (by omega), by exact congrArg some (hv2.trans hv1).symm, trivial⟩ ?_ ?_
    ·
      show a.l.length - (n + 1) < a.l.length - n
      omega
    ·
      refine ⟨by omega, (hv2.trans hv1).trans hJ2, by simp [hJ3], ?_, ?_⟩
      · rw [hl2, hl1]; simp only [List.set_set]; rw [hJ4]; exact step_set hJ3 (by omega)
      · rw [mkL_step hd0, hJ5, costL_take_const (by omega)]; rfl
  ·
    replace h1 := of_decide_eq_false h1
    refine WC.exit ?_
    refine At.thenexit ?_
    refine At.thenexit ?_
    refine At.blockexit ?_
    refine At.then_ ?_
    refine WC.seq ?_
    refine WL.p (by rfl) (Yl.move (by rfl)) ?_
    refine WL.p (by rfl) (Yl.assign (by rfl)) ?_
    refine WL.next ?_
    refine WC.ret ?_
    refine fin1' rfl (by rfl) ?_
    have hsl : s.l.length = a.l.length := by rw [hJ4]; simp [hJ3]; omega
    have hn2 : n = a.l.length := by omega
    subst hn2
    rw [costL_const]
    refine RetM.cast (congrArg I (by omega)) ?_
    exact RetM.of hs (by repeat (first | exact List.mem_cons_self | apply List.mem_cons_of_mem)) (Sl.v_enc hJ2) (by rw [hJ4, List.drop_length, List.append_nil, hJ5, List.take_length])

theorem c_laws_heldLineS (a : (Sl TLine)) (k : Int) (v : List TLine) (w : World) (h_a : Ph.ok w a) (hk0 : 0 ≤ k) (hk : k + ((costL (fun _ => 2) (v) : Nat) : Int) ≤ 100000000) (hm : a.l = mkL mkLine (fun _ => 2) k v) : Calls Tryd.prog 15 [Sl.v a, I k].toArray w (RetP w (I (k + ((costL (fun _ => 2) (v) : Nat) : Int)))) := by
  have hw := h_a.lt
  have hc : a.l.length = v.length := by rw [hm, mkL_length]
  have hk2 := hk
  rw [costL_const] at hk2
  refine enterN 32 Tryd.func15 rfl rfl rfl ?_
  have hs := Sat.start w
  refine WC.seq ?_
  refine WL.p (by rfl) (Yl.assign (by rfl)) ?_
  refine WL.next ?_
  refine WC.seq' ?_
  refine WC.seq ?_
  refine WL.p (by rfl) (Yl.assign (by rfl)) ?_
  refine WL.next ?_
  refine WC.block ?_
  refine WC.loopC (ι := Nat) (fun n => a.l.length - n) (fun n => [(5, I (n : Int)), (1, I (k + ((2 * n : Nat) : Int)))]) (fun _ => []) (fun n => n ≤ a.l.length) [(0, _)] 0 (hs) ⟨by rfl, trivial⟩ ⟨by rfl, by exact congrArg (fun z => some (I z)) (by omega), trivial⟩ ?_ ?_
  ·
    exact Nat.zero_le _
  clear hs; rintro n w hJ1 hs
  simp only [List.nil_append] at hs
  refine WC.seq' ?_
  refine WC.seq ?_
  refine WL.p (by rfl) (Yl.move (by rfl)) ?_
  refine WL.p (by rfl) (Yl.move (by rfl)) ?_
  refine WL.p (by rfl) (Yl.len_sl slu22 (by rfl)) ?_
  refine WL.p (by rfl) (Yl.lss (by rfl) (by rfl)) ?_
  refine WL.next ?_
  refine WC.condS (by rfl) (fun h1 => ?_) (fun h1 => ?_)
  ·
    replace h1 := of_decide_eq_true h1
    obtain ⟨y, hy⟩ := exists_get (l := v) (k := n) (by omega)
    have hd : a.l[n]? = some (mkLine (k + ((2 * n : Nat) : Int)) y) := by rw [hm, mkL_get hy, costL_take_const (by omega)]
    refine WC.skipn ?_
    refine WC.seq' ?_
    refine WC.block ?_
    refine WC.seq' ?_
    refine WC.seq ?_
    refine WL.p (by rfl) (Yl.move (by rfl)) ?_
    refine WL.p (by rfl) (Yl.move (by rfl)) ?_
    refine WL.p (by rfl) (Yl.indexAddr slt22 (by rfl) (by rfl) (Ph.old h_a hs) (by rfl) (hd)) ?_
    refine WL.p (by rfl) (Yl.fieldAddr fa85_0 (by rfl)) ?_
    refine WL.p (by rfl) (Yl.loadC sca3 (by rfl) (Sl.Ok.at_ (Ph.old h_a hs) (by assumption)).2 (by rfl)) ?_
    refine WL.p (by rfl) (Yl.move (by rfl)) ?_
    refine WL.p (by rfl) (Yl.nei (by rfl) (by rfl)) ?_
    refine WL.next ?_
    refine WC.condS (by rfl) (fun h2 => ?_) (fun h2 => ?_)
    ·
      replace h2 := not_eq_true h2
      replace h2 := of_decide_eq_false h2
      refine WC.seq ?_
      refine WL.p (by rfl) (Yl.assign (by rfl)) ?_
      refine WL.next ?_
      refine WC.ret ?_
      refine At.thenret ?_
      refine At.blockret ?_
      refine At.thenret ?_
      refine At.thenret ?_
      refine At.blockret ?_
      refine At.thenret ?_
      refine fin1' rfl (by rfl) ?_
      refine RetP.mk hs ?_
      first
        | exact absurd rfl h2
        | (exfalso; omega)
        | (rw [costL_const]; exact congrArg I (by omega))
    ·
      replace h2 := not_eq_false h2
      replace h2 := of_decide_eq_true h2
      refine WC.skipn ?_
      refine WC.seq ?_
      refine WL.p (by rfl) (Yl.move (by rfl)) ?_
      refine WL.p (by rfl) (Yl.add (by rfl) (by rfl) (by omega)) ?_
      refine WL.p (by rfl) (Yl.assign (by rfl)) ?_
      refine WL.next ?_
      refine WC.seq' ?_
      refine WC.quietn mixed (by kernel_rfl) hs ?_
      refine WQ.p (by rfl) (fun w hs => Yl.move (by rfl)) ?_
      refine WQ.p (by rfl) (fun w hs => Yl.move (by rfl)) ?_
      refine WQ.p (by rfl) (fun w hs => Yl.indexAddr slt22 (by rfl) (by rfl) (Ph.old h_a hs) (by rfl) (hd)) ?_
      refine WQ.p (by rfl) (fun w hs => Yl.fieldAddr fa85_1 (by rfl)) ?_
      refine WQ.p (by rfl) (fun w hs => Yl.loadC sca9 (by rfl) (Sl.Ok.at_ (Ph.old h_a hs) (by assumption)).2 (by rfl)) ?_
      refine WQ.p (by rfl) (fun w hs => Yl.move (by rfl)) ?_
      refine WQ.callp (by rfl) (fun w => Yc.func (by rfl) fn55) (fun w hs => (c_laws_markText _ _ (by omega))) (fun _ _ hs hb => hs.ext hb) ?_
      refine WQ.p (by rfl) (fun w hs => Yl.nes (by rfl) (by rfl)) ?_
      refine WQ.next ?_
      clear hs; intro w hs
      refine WC.condS (by rfl) (fun h3 => ?_) (fun h3 => ?_)
      ·
        replace h3 := not_eq_true h3
        replace h3 := of_decide_eq_false h3
        refine WC.seq ?_
        refine WL.p (by rfl) (Yl.assign (by rfl)) ?_
        refine WL.next ?_
        refine WC.ret ?_
        refine At.thenret ?_
        refine At.blockret ?_
        refine At.thenret ?_
        refine At.thenret ?_
        refine At.blockret ?_
        refine At.thenret ?_
        refine fin1' rfl (by rfl) ?_
        refine RetP.mk hs ?_
        first
          | exact absurd rfl h3
          | (exfalso; omega)
          | (rw [costL_const]; exact congrArg I (by omega))
      ·
        replace h3 := not_eq_false h3
        replace h3 := of_decide_eq_true h3
        refine WC.skipn ?_
        refine WC.region ?_
        refine WL.p (by rfl) (Yl.move (by rfl)) ?_
        refine WL.p (by rfl) (Yl.add (by rfl) (by rfl) (by omega)) ?_
        refine WL.p (by rfl) (Yl.assign (by rfl)) ?_
        refine WL.nil ?_
        refine At.blocknormal ?_
        refine At.then_ ?_
        refine WC.region ?_
        refine WL.p (by rfl) (Yl.move (by rfl)) ?_
        refine WL.p (by rfl) (Yl.add (by rfl) (by rfl) (by omega)) ?_
        refine WL.p (by rfl) (Yl.assign (by rfl)) ?_
        refine WL.nil ?_
        refine At.roundC (n + 1) (hs.only (by repeat (first | exact Sel.nil | (apply Sel.cons; (repeat (first | exact Ext.here | apply Ext.there)))))) ⟨by rfl, trivial⟩ ⟨by rfl, by exact congrArg (fun z => some (I z)) (by omega), trivial⟩ ?_ ?_
        ·
          omega
        ·
          omega
  ·
    replace h1 := of_decide_eq_false h1
    refine WC.exit ?_
    refine At.thenexit ?_
    refine At.thenexit ?_
    refine At.blockexit ?_
    refine At.then_ ?_
    refine WC.seq ?_
    refine WL.p (by rfl) (Yl.move (by rfl)) ?_
    refine WL.p (by rfl) (Yl.assign (by rfl)) ?_
    refine WL.next ?_
    refine WC.ret ?_
    refine fin1' rfl (by rfl) ?_
    refine RetP.mk hs ?_
    first
      | exact absurd rfl h1
      | (exfalso; omega)
      | (rw [costL_const]; exact congrArg I (by omega))

theorem c_laws_FnExactParseScript (aS : Str) (w : World)  (hm_ : ∃ m, w.cell? ⟨0, 0, none⟩ = some (.int .i64 m)) : Calls Tryd.prog 3 [S aS].toArray w (RetP w (Bo true)) := by
  refine enterN 66 Tryd.func3 rfl rfl rfl ?_
  have hs := Sat.start w
  refine WC.seq ?_
  refine WL.p (by rfl) (Yl.assign (by rfl)) ?_
  refine WL.next ?_
  refine WC.seq' ?_
  refine WC.seq ?_
  refine WL.p (by rfl) (Yl.move (by rfl)) ?_
  refine WL.p (by rfl) (Yl.len_str str9 (by rfl)) ?_
  refine WL.p (by rfl) (Yl.gtr (by rfl) (by rfl)) ?_
  refine WL.next ?_
  refine WC.condS (by rfl) (fun h1 => ?_) (fun h1 => ?_)
  ·
    replace h1 := of_decide_eq_true h1
    refine WC.seq ?_
    refine WL.p (by rfl) (Yl.assign (by rfl)) ?_
    refine WL.next ?_
    refine WC.ret ?_
    refine At.thenret ?_
    refine fin1' rfl (by rfl) ?_
    refine RetP.mk hs ?_
    simp_all
  ·
    replace h1 := of_decide_eq_false h1
    refine WC.skipn ?_
    refine WC.seq ?_
    refine WL.p (by rfl) (Yl.move (by rfl)) ?_
    refine WL.call hs (by rfl) (Yc.func (by rfl) fn11) (c_spec_ParseScript _ _ (by omega)) ?_
    have hs0 := hs; clear hs; intro v w hb hR hs; clear hs
    obtain ⟨x1, rfl, hx1, hf1⟩ := hR
    obtain ⟨F1, hs⟩ := hf1.sat hs0 hb; clear hs0 hf1
    refine WL.p (by rfl) (Yl.move (by rfl)) ?_
    refine WL.p (by rfl) (Yl.extract (by rfl) (by rfl)) ?_
    refine WL.p (by rfl) (Yl.extract (by rfl) (by rfl)) ?_
    refine WL.p (by rfl) (Yl.assign (by rfl)) ?_
    refine WL.p (by rfl) (Yl.assign (by rfl)) ?_
    refine WL.next ?_
    refine WC.seq ?_
    refine WL.p (by rfl) (Yl.move (by rfl)) ?_
    refine WL.call hs (by rfl) (Yc.func (by rfl) fn12) (c_impl_ParseScript _ _ (by omega) (by first | assumption | exact Sat.cellm hs (by assumption))) ?_
    have hs0 := hs; clear hs; intro v w hb hR hs; clear hs
    obtain ⟨x2, rfl, hx2, hf2⟩ := hR
    obtain ⟨F2, hs⟩ := hf2.sat hs0 hb; clear hs0 hf2
    refine WL.p (by rfl) (Yl.move (by rfl)) ?_
    refine WL.p (by rfl) (Yl.extract (by rfl) (by rfl)) ?_
    refine WL.p (by rfl) (Yl.extract (by rfl) (by rfl)) ?_
    refine WL.p (by rfl) (Yl.assign (by rfl)) ?_
    refine WL.p (by rfl) (Yl.assign (by rfl)) ?_
    refine WL.next ?_
    refine WC.seq' ?_
    refine WC.seq ?_
    refine WL.p (by rfl) (Yl.move (by rfl)) ?_
    refine WL.p (by rfl) (Yl.move (by rfl)) ?_
    refine WL.callp hs (by rfl) (Yc.func (by rfl) fn13) (c_laws_eqLineS _ _ _ (hs.okow (x := x2) (F := F2) (by repeat (first | exact List.mem_cons_self | apply List.mem_cons_of_mem))) (hs.okow (x := x1) (F := F1) (by repeat (first | exact List.mem_cons_self | apply List.mem_cons_of_mem)))) ?_
    clear hs; intro w hs
    refine WL.p (by rfl) (Yl.not (by rfl)) ?_
    refine WL.p (by rfl) (Yl.move (by rfl)) ?_
    refine WL.split (d := 28) (by rfl) (fun h2 => ?_) (fun h2 => ?_)
    ·
      replace h2 := not_eq_true h2
      replace h2 := of_decide_eq_false h2
      refine WL.skip (d := 28) (by rfl) (by rfl) (by rfl) (by rfl) ?_
      refine WL.skip (d := 28) (by rfl) (by rfl) (by rfl) (by rfl) ?_
      refine WL.skip (d := 28) (by rfl) (by rfl) (by rfl) (by rfl) ?_
      refine WL.p (by rfl) (Yl.pickT (by rfl) (by rfl)) ?_
      refine WL.next ?_
      refine WC.condT (by rfl) ?_
      refine WC.seq ?_
      refine WL.p (by rfl) (Yl.assign (by rfl)) ?_
      refine WL.next ?_
      refine WC.ret ?_
      refine At.thenret ?_
      refine fin1' rfl (by rfl) ?_
      refine RetP.mk hs ?_
      try simp only [hx1, hx2] at h1
      try simp only [hx1, hx2] at h2
      all_goals (first | (simp only [hx1, hx2]; done) | (exfalso; omega) | simp_all)
    ·
      replace h2 := not_eq_false h2
      replace h2 := of_decide_eq_true h2
      refine WL.run (d := 28) (by rfl) (by rfl) ?_
      refine WL.p (by rfl) (Yl.move (by rfl)) ?_
      refine WL.run (d := 28) (by rfl) (by rfl) ?_
      refine WL.p (by rfl) (Yl.move (by rfl)) ?_
      refine WL.run (d := 28) (by rfl) (by rfl) ?_
      refine WL.p (by rfl) (Yl.neb bool4 (by rfl) (by rfl)) ?_
      refine WL.p (by rfl) (Yl.pickF (by rfl) (by rfl)) ?_
      refine WL.next ?_
      refine WC.condS (by rfl) (fun h3 => ?_) (fun h3 => ?_)
      ·
        replace h3 := not_eq_true h3
        replace h3 := beq_false h3
        refine WC.seq ?_
        refine WL.p (by rfl) (Yl.assign (by rfl)) ?_
        refine WL.next ?_
        refine WC.ret ?_
        refine At.thenret ?_
        refine fin1' rfl (by rfl) ?_
        refine RetP.mk hs ?_
        try simp only [hx1, hx2] at h1
        try simp only [hx1, hx2] at h2
        try simp only [hx1, hx2] at h3
        all_goals (first | (simp only [hx1, hx2]; done) | (exfalso; omega) | simp_all)
      ·
        replace h3 := not_eq_false h3
        replace h3 := beq_true h3
        refine WC.skipn ?_
        refine WC.seq ?_
        refine WL.p (by rfl) (Yl.assign (by rfl)) ?_
        refine WL.next ?_
        refine WC.seq ?_
        refine WL.p (by rfl) (Yl.move (by rfl)) ?_
        refine WL.p (by rfl) (Yl.move (by rfl)) ?_
        refine WL.callm (a := x2) (F := F2) hs (by repeat (first | exact Sel.nil | (apply Sel.cons; (repeat (first | exact Ext.here | apply Ext.there))))) (by rfl) (Yc.func (by rfl) fn14) (c_laws_markLineS x2 _ _ F2 (own_of hs (by repeat (first | exact List.mem_cons_self | apply List.mem_cons_of_mem))) (nodup_of hs (by repeat (first | exact List.mem_cons_self | apply List.mem_cons_of_mem))) (by first | assumption | omega | (simp only [lsz] at *; omega) | (simp only [lsz, strsz, TPolicy.size, TCache.size, TAddr.size, TRequest.size, TEntry.size, TResponse.size, TLine.size] at *; omega) | (simp only [lsz_map, TPage.size, TBuilder.size, TNode.size, TToken.size, TTokenizer.size, TServer.size, TFile.size, TNet.size, TCache.size, TSheet.size, strsz] at *; omega) | (simp only [lsz_map, TPage.size, TBuilder.size, TNode.size, TToken.size, TTokenizer.size, TServer.size, TFile.size, TNet.size, TCache.size, TSheet.size, strsz, lsz] at *; omega)) (by first | omega | (try simp only [hx1, hx2]); (have := costLines_le aS; omega))) ?_
        clear hs; intro a3 F3 w he3 hq3 hs
        refine WL.p (by rfl) (Yl.assign (by rfl)) ?_
        refine WL.next ?_
        refine WC.seq ?_
        refine WL.p (by rfl) (Yl.assign (by rfl)) ?_
        refine WL.next ?_
        refine WC.seq ?_
        refine WL.p (by rfl) (Yl.move (by rfl)) ?_
        refine WL.p (by rfl) (Yl.move (by rfl)) ?_
        refine WL.callp hs (by rfl) (Yc.func (by rfl) fn15) (calls_conv (congrArg (fun z => ([z, _] : List Value).toArray) (show a3.v = x2.v from Sl.enc_v he3)) (c_laws_heldLineS a3 _ x2.l _ (hs.okow (x := a3) (F := F3) (by repeat (first | exact List.mem_cons_self | apply List.mem_cons_of_mem))) (by first | assumption | omega | (simp only [lsz] at *; omega) | (simp only [lsz, strsz, TPolicy.size, TCache.size, TAddr.size, TRequest.size, TEntry.size, TResponse.size, TLine.size] at *; omega) | (simp only [lsz_map, TPage.size, TBuilder.size, TNode.size, TToken.size, TTokenizer.size, TServer.size, TFile.size, TNet.size, TCache.size, TSheet.size, strsz] at *; omega) | (simp only [lsz_map, TPage.size, TBuilder.size, TNode.size, TToken.size, TTokenizer.size, TServer.size, TFile.size, TNet.size, TCache.size, TSheet.size, strsz, lsz] at *; omega)) (by first | omega | (try simp only [hx1, hx2]); (have := costLines_le aS; omega)) (by exact hq3))) ?_
        clear hs; intro w hs
        refine WL.p (by rfl) (Yl.assign (by rfl)) ?_
        refine WL.next ?_
        refine WC.seq' ?_
        refine WC.seq ?_
        refine WL.p (by rfl) (Yl.move (by rfl)) ?_
        refine WL.p (by rfl) (Yl.lss (by rfl) (by rfl)) ?_
        refine WL.next ?_
        refine WC.condS (by rfl) (fun h4 => ?_) (fun h4 => ?_)
        ·
          replace h4 := of_decide_eq_true h4
          refine WC.seq ?_
          refine WL.p (by rfl) (Yl.assign (by rfl)) ?_
          refine WL.next ?_
          refine WC.ret ?_
          refine At.thenret ?_
          refine fin1' rfl (by rfl) ?_
          refine RetP.mk hs ?_
          try simp only [hx1, hx2, hq3] at h1
          try simp only [hx1, hx2, hq3] at h2
          try simp only [hx1, hx2, hq3] at h3
          try simp only [hx1, hx2, hq3] at h4
          all_goals (first | (simp only [hx1, hx2, hq3]; done) | (exfalso; omega) | simp_all)
        ·
          replace h4 := of_decide_eq_false h4
          refine WC.skipn ?_
          refine WC.seq' ?_
          refine WC.seq ?_
          refine WL.p (by rfl) (Yl.move (by rfl)) ?_
          refine WL.p (by rfl) (Yl.move (by rfl)) ?_
          refine WL.p (by rfl) (Yl.nei (by rfl) (by rfl)) ?_
          refine WL.next ?_
          refine WC.condS (by rfl) (fun h5 => ?_) (fun h5 => ?_)
          ·
            replace h5 := not_eq_true h5
            replace h5 := of_decide_eq_false h5
            refine WC.seq ?_
            refine WL.p (by rfl) (Yl.assign (by rfl)) ?_
            refine WL.next ?_
            refine WC.ret ?_
            refine At.thenret ?_
            refine fin1' rfl (by rfl) ?_
            refine RetP.mk hs ?_
            try simp only [hx1, hx2, hq3] at h1
            try simp only [hx1, hx2, hq3] at h2
            try simp only [hx1, hx2, hq3] at h3
            try simp only [hx1, hx2, hq3] at h4
            try simp only [hx1, hx2, hq3] at h5
            all_goals (first | (simp only [hx1, hx2, hq3]; done) | (exfalso; omega) | simp_all)
          ·
            replace h5 := not_eq_false h5
            replace h5 := of_decide_eq_true h5
            refine WC.skipn ?_
            refine WC.seq ?_
            refine WL.p (by rfl) (Yl.move (by rfl)) ?_
            refine WL.call hs (by rfl) (Yc.func (by rfl) fn12) (c_impl_ParseScript _ _ (by omega) (by first | assumption | exact Sat.cellm hs (by assumption))) ?_
            have hs0 := hs; clear hs; intro v w hb hR hs; clear hs
            obtain ⟨x4, rfl, hx4, hf4⟩ := hR
            obtain ⟨F4, hs⟩ := hf4.sat hs0 hb; clear hs0 hf4
            refine WL.p (by rfl) (Yl.move (by rfl)) ?_
            refine WL.p (by rfl) (Yl.extract (by rfl) (by rfl)) ?_
            refine WL.p (by rfl) (Yl.extract (by rfl) (by rfl)) ?_
            refine WL.p (by rfl) (Yl.assign (by rfl)) ?_
            refine WL.p (by rfl) (Yl.assign (by rfl)) ?_
            refine WL.next ?_
            refine WC.seq' ?_
            refine WC.seq ?_
            refine WL.p (by rfl) (Yl.move (by rfl)) ?_
            refine WL.p (by rfl) (Yl.move (by rfl)) ?_
            refine WL.callp hs (by rfl) (Yc.func (by rfl) fn13) (c_laws_eqLineS _ _ _ (hs.okow (x := x4) (F := F4) (by repeat (first | exact List.mem_cons_self | apply List.mem_cons_of_mem))) (hs.okow (x := x1) (F := F1) (by repeat (first | exact List.mem_cons_self | apply List.mem_cons_of_mem)))) ?_
            clear hs; intro w hs
            refine WL.p (by rfl) (Yl.not (by rfl)) ?_
            refine WL.p (by rfl) (Yl.move (by rfl)) ?_
            refine WL.split (d := 53) (by rfl) (fun h6 => ?_) (fun h6 => ?_)
            ·
              replace h6 := not_eq_true h6
              replace h6 := of_decide_eq_false h6
              refine WL.skip (d := 53) (by rfl) (by rfl) (by rfl) (by rfl) ?_
              refine WL.skip (d := 53) (by rfl) (by rfl) (by rfl) (by rfl) ?_
              refine WL.skip (d := 53) (by rfl) (by rfl) (by rfl) (by rfl) ?_
              refine WL.p (by rfl) (Yl.pickT (by rfl) (by rfl)) ?_
              refine WL.next ?_
              refine WC.condT (by rfl) ?_
              refine WC.seq ?_
              refine WL.p (by rfl) (Yl.assign (by rfl)) ?_
              refine WL.next ?_
              refine WC.ret ?_
              refine At.thenret ?_
              refine fin1' rfl (by rfl) ?_
              refine RetP.mk hs ?_
              try simp only [hx1, hx2, hq3, hx4] at h1
              try simp only [hx1, hx2, hq3, hx4] at h2
              try simp only [hx1, hx2, hq3, hx4] at h3
              try simp only [hx1, hx2, hq3, hx4] at h4
              try simp only [hx1, hx2, hq3, hx4] at h5
              try simp only [hx1, hx2, hq3, hx4] at h6
              all_goals (first | (simp only [hx1, hx2, hq3, hx4]; done) | (exfalso; omega) | simp_all)
            ·
              replace h6 := not_eq_false h6
              replace h6 := of_decide_eq_true h6
              refine WL.run (d := 53) (by rfl) (by rfl) ?_
              refine WL.p (by rfl) (Yl.move (by rfl)) ?_
              refine WL.run (d := 53) (by rfl) (by rfl) ?_
              refine WL.p (by rfl) (Yl.move (by rfl)) ?_
              refine WL.run (d := 53) (by rfl) (by rfl) ?_
              refine WL.p (by rfl) (Yl.neb bool4 (by rfl) (by rfl)) ?_
              refine WL.p (by rfl) (Yl.pickF (by rfl) (by rfl)) ?_
              refine WL.next ?_
              refine WC.condS (by rfl) (fun h7 => ?_) (fun h7 => ?_)
              ·
                replace h7 := not_eq_true h7
                replace h7 := beq_false h7
                refine WC.seq ?_
                refine WL.p (by rfl) (Yl.assign (by rfl)) ?_
                refine WL.next ?_
                refine WC.ret ?_
                refine At.thenret ?_
                refine fin1' rfl (by rfl) ?_
                refine RetP.mk hs ?_
                try simp only [hx1, hx2, hq3, hx4] at h1
                try simp only [hx1, hx2, hq3, hx4] at h2
                try simp only [hx1, hx2, hq3, hx4] at h3
                try simp only [hx1, hx2, hq3, hx4] at h4
                try simp only [hx1, hx2, hq3, hx4] at h5
                try simp only [hx1, hx2, hq3, hx4] at h6
                try simp only [hx1, hx2, hq3, hx4] at h7
                all_goals (first | (simp only [hx1, hx2, hq3, hx4]; done) | (exfalso; omega) | simp_all)
              ·
                replace h7 := not_eq_false h7
                replace h7 := beq_true h7
                refine WC.skipn ?_
                refine WC.seq ?_
                refine WL.p (by rfl) (Yl.assign (by rfl)) ?_
                refine WL.next ?_
                refine WC.seq ?_
                refine WL.p (by rfl) (Yl.move (by rfl)) ?_
                refine WL.p (by rfl) (Yl.move (by rfl)) ?_
                refine WL.callp hs (by rfl) (Yc.func (by rfl) fn15) (calls_conv (congrArg (fun z => ([z, _] : List Value).toArray) (show a3.v = x2.v from Sl.enc_v he3)) (c_laws_heldLineS a3 _ x2.l _ (hs.okow (x := a3) (F := F3) (by repeat (first | exact List.mem_cons_self | apply List.mem_cons_of_mem))) (by first | assumption | omega | (simp only [lsz] at *; omega) | (simp only [lsz, strsz, TPolicy.size, TCache.size, TAddr.size, TRequest.size, TEntry.size, TResponse.size, TLine.size] at *; omega) | (simp only [lsz_map, TPage.size, TBuilder.size, TNode.size, TToken.size, TTokenizer.size, TServer.size, TFile.size, TNet.size, TCache.size, TSheet.size, strsz] at *; omega) | (simp only [lsz_map, TPage.size, TBuilder.size, TNode.size, TToken.size, TTokenizer.size, TServer.size, TFile.size, TNet.size, TCache.size, TSheet.size, strsz, lsz] at *; omega)) (by first | omega | (try simp only [hx1, hx2, hx4]); (have := costLines_le aS; omega)) (by exact hq3))) ?_
                clear hs; intro w hs
                refine WL.p (by rfl) (Yl.assign (by rfl)) ?_
                refine WL.next ?_
                refine WC.seq' ?_
                refine WC.seq ?_
                refine WL.p (by rfl) (Yl.move (by rfl)) ?_
                refine WL.p (by rfl) (Yl.lss (by rfl) (by rfl)) ?_
                refine WL.next ?_
                refine WC.condS (by rfl) (fun h8 => ?_) (fun h8 => ?_)
                ·
                  replace h8 := of_decide_eq_true h8
                  refine WC.seq ?_
                  refine WL.p (by rfl) (Yl.assign (by rfl)) ?_
                  refine WL.next ?_
                  refine WC.ret ?_
                  refine At.thenret ?_
                  refine fin1' rfl (by rfl) ?_
                  refine RetP.mk hs ?_
                  try simp only [hx1, hx2, hq3, hx4] at h1
                  try simp only [hx1, hx2, hq3, hx4] at h2
                  try simp only [hx1, hx2, hq3, hx4] at h3
                  try simp only [hx1, hx2, hq3, hx4] at h4
                  try simp only [hx1, hx2, hq3, hx4] at h5
                  try simp only [hx1, hx2, hq3, hx4] at h6
                  try simp only [hx1, hx2, hq3, hx4] at h7
                  try simp only [hx1, hx2, hq3, hx4] at h8
                  all_goals (first | (simp only [hx1, hx2, hq3, hx4]; done) | (exfalso; omega) | simp_all)
                ·
                  replace h8 := of_decide_eq_false h8
                  refine WC.skipn ?_
                  refine WC.seq' ?_
                  refine WC.seq ?_
                  refine WL.p (by rfl) (Yl.move (by rfl)) ?_
                  refine WL.p (by rfl) (Yl.move (by rfl)) ?_
                  refine WL.p (by rfl) (Yl.nei (by rfl) (by rfl)) ?_
                  refine WL.next ?_
                  refine WC.condS (by rfl) (fun h9 => ?_) (fun h9 => ?_)
                  ·
                    replace h9 := not_eq_true h9
                    replace h9 := of_decide_eq_false h9
                    refine WC.seq ?_
                    refine WL.p (by rfl) (Yl.assign (by rfl)) ?_
                    refine WL.next ?_
                    refine WC.ret ?_
                    refine At.thenret ?_
                    refine fin1' rfl (by rfl) ?_
                    refine RetP.mk hs ?_
                    try simp only [hx1, hx2, hq3, hx4] at h1
                    try simp only [hx1, hx2, hq3, hx4] at h2
                    try simp only [hx1, hx2, hq3, hx4] at h3
                    try simp only [hx1, hx2, hq3, hx4] at h4
                    try simp only [hx1, hx2, hq3, hx4] at h5
                    try simp only [hx1, hx2, hq3, hx4] at h6
                    try simp only [hx1, hx2, hq3, hx4] at h7
                    try simp only [hx1, hx2, hq3, hx4] at h8
                    try simp only [hx1, hx2, hq3, hx4] at h9
                    all_goals (first | (simp only [hx1, hx2, hq3, hx4]; done) | (exfalso; omega) | simp_all)
                  ·
                    replace h9 := not_eq_false h9
                    replace h9 := of_decide_eq_true h9
                    refine WC.skipn ?_
                    refine WC.seq ?_
                    refine WL.p (by rfl) (Yl.assign (by rfl)) ?_
                    refine WL.next ?_
                    refine WC.ret ?_
                    refine fin1' rfl (by rfl) ?_
                    refine RetP.mk hs ?_
                    try simp only [hx1, hx2, hq3, hx4] at h1
                    try simp only [hx1, hx2, hq3, hx4] at h2
                    try simp only [hx1, hx2, hq3, hx4] at h3
                    try simp only [hx1, hx2, hq3, hx4] at h4
                    try simp only [hx1, hx2, hq3, hx4] at h5
                    try simp only [hx1, hx2, hq3, hx4] at h6
                    try simp only [hx1, hx2, hq3, hx4] at h7
                    try simp only [hx1, hx2, hq3, hx4] at h8
                    try simp only [hx1, hx2, hq3, hx4] at h9
                    all_goals (first | (simp only [hx1, hx2, hq3, hx4]; done) | (exfalso; omega) | simp_all)

end Go.Sw
