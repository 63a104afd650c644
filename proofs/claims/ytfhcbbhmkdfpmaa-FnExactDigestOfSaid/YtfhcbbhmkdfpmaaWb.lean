/- Walks: what each function of the program returns, for every input. Printed by gen.py. -/
import Derived.Test.YtfhcbbhmkdfpmaaWa
set_option linter.all false
namespace Go.Sw
open Go Go.RowKit Go.Proofs

theorem c_laws_szPolicy (a : PPolicy) (left : Int) (w : World) (h_a : Ph.ok w a) (hl0 : 0 ≤ left) (hl1 : left ≤ 1048576) : Calls Try.prog 26 [.agg #[Bo a.set, Sl.v a.scripts, Sl.v a.styles, Sl.v a.images, S a.nonce], I left].toArray w (RetP w (I (lessN left a.lg.size))) := by
  have hb4 : a.nonce.length ≤ 9223372036854775807 := h_a.nonce
  refine enterN 31 Try.func26 rfl rfl rfl ?_
  have hs := Sat.start w
  refine WC.seq ?_
  refine WL.r (by rfl) (Yr.box hs (by rfl) (by rfl)) ?_
  clear hs; rintro _ w ⟨b1, rfl, hb, hs⟩; clear hb
  refine WL.p (by rfl) (Yl.assign (by rfl)) ?_
  refine WL.next ?_
  refine WC.seq ?_
  refine WL.p (by rfl) (Yl.fieldAddr fa44_1 (by rfl)) ?_
  refine WL.p (by rfl) (Yl.loadB sca42 (by rfl) hs (by repeat (first | exact List.mem_cons_self | apply List.mem_cons_of_mem)) (by rfl)) ?_
  refine WL.p (by rfl) (Yl.move (by rfl)) ?_
  refine WL.callp hs (by rfl) (Yc.func (by rfl) fn60) (c_laws_szStringS _ _ _ (Ph.old h_a.scripts hs) (by first | assumption | omega | (simp only [TPolicy.size, strsz]; omega)) (by first | assumption | omega | (simp only [TPolicy.size, strsz]; omega))) ?_
  clear hs; intro w hs
  refine WL.p (by rfl) (Yl.assign (by rfl)) ?_
  refine WL.next ?_
  refine WC.seq' ?_
  refine WC.seq ?_
  refine WL.p (by rfl) (Yl.move (by rfl)) ?_
  refine WL.p (by rfl) (Yl.lss (by rfl) (by rfl)) ?_
  refine WL.next ?_
  refine WC.condS (by rfl) (fun h1 => ?_) (fun h1 => ?_)
  ·
    replace h1 := lessN_neg (of_decide_eq_true h1)
    refine WC.seq ?_
    refine WL.p (by rfl) (Yl.assign (by rfl)) ?_
    refine WL.next ?_
    refine WC.ret ?_
    refine At.thenret ?_
    refine fin1' rfl (by rfl) ?_
    refine RetP.mk hs ?_
    first
      | (rw [lessN_lt (left := left) (n := a.lg.size) (by simp only [TPolicy.size, strsz]; omega)]; done)
      | (rw [lessN_ge (left := left) (n := a.lg.size) (by simp only [TPolicy.size, strsz]; omega)]; try exact congrArg I (by simp only [TPolicy.size, strsz] <;> omega))
  ·
    replace h1 := lessN_nn (by omega) (of_decide_eq_false h1)
    refine WC.skipn ?_
    refine WC.seq ?_
    refine WL.p (by rfl) (Yl.fieldAddr fa44_2 (by rfl)) ?_
    refine WL.p (by rfl) (Yl.loadB sca42 (by rfl) hs (by repeat (first | exact List.mem_cons_self | apply List.mem_cons_of_mem)) (by rfl)) ?_
    refine WL.p (by rfl) (Yl.move (by rfl)) ?_
    refine WL.callp hs (by rfl) (Yc.func (by rfl) fn60) (c_laws_szStringS _ _ _ (Ph.old h_a.styles hs) (by first | assumption | omega | (simp only [TPolicy.size, strsz]; omega)) (by first | assumption | omega | (simp only [TPolicy.size, strsz]; omega))) ?_
    clear hs; intro w hs
    refine WL.p (by rfl) (Yl.assign (by rfl)) ?_
    refine WL.next ?_
    refine WC.seq' ?_
    refine WC.seq ?_
    refine WL.p (by rfl) (Yl.move (by rfl)) ?_
    refine WL.p (by rfl) (Yl.lss (by rfl) (by rfl)) ?_
    refine WL.next ?_
    refine WC.condS (by rfl) (fun h2 => ?_) (fun h2 => ?_)
    ·
      replace h2 := lessN_neg (of_decide_eq_true h2)
      refine WC.seq ?_
      refine WL.p (by rfl) (Yl.assign (by rfl)) ?_
      refine WL.next ?_
      refine WC.ret ?_
      refine At.thenret ?_
      refine fin1' rfl (by rfl) ?_
      refine RetP.mk hs ?_
      first
        | (rw [lessN_lt (left := left) (n := a.lg.size) (by simp only [TPolicy.size, strsz]; omega)]; done)
        | (rw [lessN_ge (left := left) (n := a.lg.size) (by simp only [TPolicy.size, strsz]; omega)]; try exact congrArg I (by simp only [TPolicy.size, strsz] <;> omega))
    ·
      replace h2 := lessN_nn (by omega) (of_decide_eq_false h2)
      refine WC.skipn ?_
      refine WC.seq ?_
      refine WL.p (by rfl) (Yl.fieldAddr fa44_3 (by rfl)) ?_
      refine WL.p (by rfl) (Yl.loadB sca42 (by rfl) hs (by repeat (first | exact List.mem_cons_self | apply List.mem_cons_of_mem)) (by rfl)) ?_
      refine WL.p (by rfl) (Yl.move (by rfl)) ?_
      refine WL.callp hs (by rfl) (Yc.func (by rfl) fn60) (c_laws_szStringS _ _ _ (Ph.old h_a.images hs) (by first | assumption | omega | (simp only [TPolicy.size, strsz]; omega)) (by first | assumption | omega | (simp only [TPolicy.size, strsz]; omega))) ?_
      clear hs; intro w hs
      refine WL.p (by rfl) (Yl.assign (by rfl)) ?_
      refine WL.next ?_
      refine WC.seq' ?_
      refine WC.seq ?_
      refine WL.p (by rfl) (Yl.move (by rfl)) ?_
      refine WL.p (by rfl) (Yl.lss (by rfl) (by rfl)) ?_
      refine WL.next ?_
      refine WC.condS (by rfl) (fun h3 => ?_) (fun h3 => ?_)
      ·
        replace h3 := lessN_neg (of_decide_eq_true h3)
        refine WC.seq ?_
        refine WL.p (by rfl) (Yl.assign (by rfl)) ?_
        refine WL.next ?_
        refine WC.ret ?_
        refine At.thenret ?_
        refine fin1' rfl (by rfl) ?_
        refine RetP.mk hs ?_
        first
          | (rw [lessN_lt (left := left) (n := a.lg.size) (by simp only [TPolicy.size, strsz]; omega)]; done)
          | (rw [lessN_ge (left := left) (n := a.lg.size) (by simp only [TPolicy.size, strsz]; omega)]; try exact congrArg I (by simp only [TPolicy.size, strsz] <;> omega))
      ·
        replace h3 := lessN_nn (by omega) (of_decide_eq_false h3)
        refine WC.skipn ?_
        refine WC.seq ?_
        refine WL.p (by rfl) (Yl.move (by rfl)) ?_
        refine WL.p (by rfl) (Yl.fieldAddr fa44_4 (by rfl)) ?_
        refine WL.p (by rfl) (Yl.loadB sca9 (by rfl) hs (by repeat (first | exact List.mem_cons_self | apply List.mem_cons_of_mem)) (by rfl)) ?_
        refine WL.p (by rfl) (Yl.len_str str9 (by rfl)) ?_
        refine WL.p (by rfl) (Yl.sub_ (by rfl) (by rfl) (by omega)) ?_
        refine WL.p (by rfl) (Yl.assign (by rfl)) ?_
        refine WL.next ?_
        refine WC.seq' ?_
        refine WC.seq ?_
        refine WL.p (by rfl) (Yl.move (by rfl)) ?_
        refine WL.p (by rfl) (Yl.lss (by rfl) (by rfl)) ?_
        refine WL.next ?_
        refine WC.condS (by rfl) (fun h4 => ?_) (fun h4 => ?_)
        ·
          replace h4 := of_decide_eq_true h4
          refine WC.seq ?_
          refine WL.p (by rfl) (Yl.assign (by rfl)) ?_
          refine WL.next ?_
          refine WC.ret ?_
          refine At.thenret ?_
          refine fin1' rfl (by rfl) ?_
          refine RetP.mk hs ?_
          first
            | (rw [lessN_lt (left := left) (n := a.lg.size) (by simp only [TPolicy.size, strsz]; omega)]; done)
            | (rw [lessN_ge (left := left) (n := a.lg.size) (by simp only [TPolicy.size, strsz]; omega)]; try exact congrArg I (by simp only [TPolicy.size, strsz] <;> omega))
        ·
          replace h4 := of_decide_eq_false h4
          refine WC.skipn ?_
          refine WC.seq ?_
          refine WL.p (by rfl) (Yl.move (by rfl)) ?_
          refine WL.p (by rfl) (Yl.assign (by rfl)) ?_
          refine WL.next ?_
          refine WC.ret ?_
          refine fin1' rfl (by rfl) ?_
          refine RetP.mk hs ?_
          first
            | (rw [lessN_lt (left := left) (n := a.lg.size) (by simp only [TPolicy.size, strsz]; omega)]; done)
            | (rw [lessN_ge (left := left) (n := a.lg.size) (by simp only [TPolicy.size, strsz]; omega)]; try exact congrArg I (by simp only [TPolicy.size, strsz] <;> omega))

theorem c_laws_toPolicy (a : PPolicy) (w : World) (h_a : Ph.ok w a) (hb : a.lg.size ≤ 1048576) : Calls Try.prog 28 [.agg #[Bo a.set, Sl.v a.scripts, Sl.v a.styles, Sl.v a.images, S a.nonce]].toArray w (Ret w (fun v w' => ∃ x : PPolicy, v = .agg (Ph.enc x).toArray ∧ x.lg = a.lg ∧ Fresh w x w')) := by
  refine enterN 23 Try.func28 rfl rfl rfl ?_
  have hs := Sat.start w
  refine WC.seq ?_
  refine WL.r (by rfl) (Yr.box hs (by rfl) (by rfl)) ?_
  clear hs; rintro _ w ⟨b1, rfl, hb, hs⟩; clear hb
  refine WL.r (by rfl) (Yr.alloc hs zt47) ?_
  clear hs; rintro _ w ⟨b2, rfl, hb, hs⟩; clear hb
  refine WL.next ?_
  refine WC.seq ?_
  refine WL.r (by rfl) (Yr.alloc hs zt47) ?_
  clear hs; rintro _ w ⟨b3, rfl, hb, hs⟩; clear hb
  refine WL.next ?_
  refine WC.seq ?_
  refine WL.p (by rfl) (Yl.fieldAddr fa44_0 (by rfl)) ?_
  refine WL.p (by rfl) (Yl.loadB sca4 (by rfl) hs (by repeat (first | exact List.mem_cons_self | apply List.mem_cons_of_mem)) (by rfl)) ?_
  refine WL.p (by rfl) (Yl.fieldAddr fa47_0 (by rfl)) ?_
  refine WL.s (Yr.storeB hs (by rfl) (by rfl) (by rfl) (by repeat (first | exact Repl.here | apply Repl.there)) (by repeat (first | (apply SetAt.here; repeat (first | exact Over.nil | apply Over.cons)) | apply SetAt.there)) (by rfl) (by exact szf4)) ?_
  clear hs; rintro _ w hs
  refine WL.next ?_
  refine WC.seq ?_
  refine WL.p (by rfl) (Yl.fieldAddr fa44_1 (by rfl)) ?_
  refine WL.p (by rfl) (Yl.loadB sca42 (by rfl) hs (by repeat (first | exact List.mem_cons_self | apply List.mem_cons_of_mem)) (by rfl)) ?_
  refine WL.call hs (by rfl) (Yc.func (by rfl) fn61) (c_laws_toStringS _ _ (Ph.old h_a.scripts hs) (by first | assumption | omega | (simp only [lsz] at *; omega) | (simp only [lsz, strsz, TPolicy.size, TCache.size, TAddr.size, TRequest.size, TEntry.size, TResponse.size, TLine.size] at *; omega))) ?_
  have hs0 := hs; clear hs; intro v w hb hR hs; clear hs
  obtain ⟨x4, rfl, hx4, hf4⟩ := hR
  obtain ⟨F4, hs⟩ := hf4.sat hs0 hb; clear hs0 hf4
  refine WL.p (by rfl) (Yl.fieldAddr fa47_1 (by rfl)) ?_
  refine WL.s (Yr.storeB hs (by rfl) (by rfl) (by rfl) (by repeat (first | exact Repl.here | apply Repl.there)) (by repeat (first | (apply SetAt.here; repeat (first | exact Over.nil | apply Over.cons)) | apply SetAt.there)) (by rfl) (by exact szf42)) ?_
  clear hs; rintro _ w hs
  refine WL.next ?_
  refine WC.seq ?_
  refine WL.p (by rfl) (Yl.fieldAddr fa44_2 (by rfl)) ?_
  refine WL.p (by rfl) (Yl.loadB sca42 (by rfl) hs (by repeat (first | exact List.mem_cons_self | apply List.mem_cons_of_mem)) (by rfl)) ?_
  refine WL.call hs (by rfl) (Yc.func (by rfl) fn61) (c_laws_toStringS _ _ (Ph.old h_a.styles hs) (by first | assumption | omega | (simp only [lsz] at *; omega) | (simp only [lsz, strsz, TPolicy.size, TCache.size, TAddr.size, TRequest.size, TEntry.size, TResponse.size, TLine.size] at *; omega))) ?_
  have hs0 := hs; clear hs; intro v w hb hR hs; clear hs
  obtain ⟨x5, rfl, hx5, hf5⟩ := hR
  obtain ⟨F5, hs⟩ := hf5.sat hs0 hb; clear hs0 hf5
  refine WL.p (by rfl) (Yl.fieldAddr fa47_2 (by rfl)) ?_
  refine WL.s (Yr.storeB hs (by rfl) (by rfl) (by rfl) (by repeat (first | exact Repl.here | apply Repl.there)) (by repeat (first | (apply SetAt.here; repeat (first | exact Over.nil | apply Over.cons)) | apply SetAt.there)) (by rfl) (by exact szf42)) ?_
  clear hs; rintro _ w hs
  refine WL.next ?_
  refine WC.seq ?_
  refine WL.p (by rfl) (Yl.fieldAddr fa44_3 (by rfl)) ?_
  refine WL.p (by rfl) (Yl.loadB sca42 (by rfl) hs (by repeat (first | exact List.mem_cons_self | apply List.mem_cons_of_mem)) (by rfl)) ?_
  refine WL.call hs (by rfl) (Yc.func (by rfl) fn61) (c_laws_toStringS _ _ (Ph.old h_a.images hs) (by first | assumption | omega | (simp only [lsz] at *; omega) | (simp only [lsz, strsz, TPolicy.size, TCache.size, TAddr.size, TRequest.size, TEntry.size, TResponse.size, TLine.size] at *; omega))) ?_
  have hs0 := hs; clear hs; intro v w hb hR hs; clear hs
  obtain ⟨x6, rfl, hx6, hf6⟩ := hR
  obtain ⟨F6, hs⟩ := hf6.sat hs0 hb; clear hs0 hf6
  refine WL.p (by rfl) (Yl.fieldAddr fa47_3 (by rfl)) ?_
  refine WL.s (Yr.storeB hs (by rfl) (by rfl) (by rfl) (by repeat (first | exact Repl.here | apply Repl.there)) (by repeat (first | (apply SetAt.here; repeat (first | exact Over.nil | apply Over.cons)) | apply SetAt.there)) (by rfl) (by exact szf42)) ?_
  clear hs; rintro _ w hs
  refine WL.next ?_
  refine WC.seq ?_
  refine WL.p (by rfl) (Yl.fieldAddr fa44_4 (by rfl)) ?_
  refine WL.p (by rfl) (Yl.loadB sca9 (by rfl) hs (by repeat (first | exact List.mem_cons_self | apply List.mem_cons_of_mem)) (by rfl)) ?_
  refine WL.p (by rfl) (Yl.fieldAddr fa47_4 (by rfl)) ?_
  refine WL.s (Yr.storeB hs (by rfl) (by rfl) (by rfl) (by repeat (first | exact Repl.here | apply Repl.there)) (by repeat (first | (apply SetAt.here; repeat (first | exact Over.nil | apply Over.cons)) | apply SetAt.there)) (by rfl) (by exact szf9)) ?_
  clear hs; rintro _ w hs
  refine WL.next ?_
  refine WC.seq ?_
  refine WL.p (by rfl) (Yl.loadAB agg47 (by rfl) hs (by repeat (first | exact List.mem_cons_self | apply List.mem_cons_of_mem)) (by rfl) (by rfl)) ?_
  refine WL.s (Yr.storeB hs (by rfl) (by rfl) (by rfl) (by repeat (first | exact Repl.here | apply Repl.there)) (by repeat (first | (apply SetAt.here; repeat (first | exact Over.nil | apply Over.cons)) | apply SetAt.there)) (by rfl) (by exact szf47)) ?_
  clear hs; rintro _ w hs
  refine WL.next ?_
  refine WC.ret ?_
  refine fin1c rfl agg47 (by rfl) hs (by repeat (first | exact List.mem_cons_self | apply List.mem_cons_of_mem)) (by rfl) ?_
  refine Ret.mk hs ?_
  refine ⟨⟨_, x4, x5, x6, _⟩, rfl, ?_, ?_⟩
  · simp_all
  · exact (PPolicy.join _ (hs.only (D := [ow x4 F4, ow x5 F5, ow x6 F6]) (by repeat (first | exact Sel.nil | (apply Sel.cons; (repeat (first | exact Ext.here | apply Ext.there)))))) (by first | exact Ph.old h_a.set hs | trivial | assumption) (by first | exact Ph.old h_a.nonce hs | trivial | assumption)).fresh List.mem_cons_self

theorem c_laws_eqPolicy (a : PPolicy) (b : PPolicy) (w : World) (h_a : Ph.ok w a) (h_b : Ph.ok w b)  : Calls Try.prog 30 [.agg #[Bo a.set, Sl.v a.scripts, Sl.v a.styles, Sl.v a.images, S a.nonce], .agg #[Bo b.set, Sl.v b.scripts, Sl.v b.styles, Sl.v b.images, S b.nonce]].toArray w (RetP w (Bo (decide (a.lg = b.lg)))) := by
  refine enterN 33 Try.func30 rfl rfl rfl ?_
  have hs := Sat.start w
  refine WC.seq ?_
  refine WL.r (by rfl) (Yr.box hs (by rfl) (by rfl)) ?_
  clear hs; rintro _ w ⟨b1, rfl, hb, hs⟩; clear hb
  refine WL.r (by rfl) (Yr.box hs (by rfl) (by rfl)) ?_
  clear hs; rintro _ w ⟨b2, rfl, hb, hs⟩; clear hb
  refine WL.p (by rfl) (Yl.assign (by rfl)) ?_
  refine WL.next ?_
  refine WC.seq' ?_
  refine WC.seq ?_
  refine WL.p (by rfl) (Yl.fieldAddr fa47_0 (by rfl)) ?_
  refine WL.p (by rfl) (Yl.loadB sca4 (by rfl) hs (by repeat (first | exact List.mem_cons_self | apply List.mem_cons_of_mem)) (by rfl)) ?_
  refine WL.p (by rfl) (Yl.fieldAddr fa47_0 (by rfl)) ?_
  refine WL.p (by rfl) (Yl.loadB sca4 (by rfl) hs (by repeat (first | exact List.mem_cons_self | apply List.mem_cons_of_mem)) (by rfl)) ?_
  refine WL.p (by rfl) (Yl.neb bool4 (by rfl) (by rfl)) ?_
  refine WL.next ?_
  refine WC.condS (by rfl) (fun h1 => ?_) (fun h1 => ?_)
  ·
    replace h1 := not_eq_true h1
    replace h1 := beq_false h1
    refine WC.seq ?_
    refine WL.p (by rfl) (Yl.assign (by rfl)) ?_
    refine WL.next ?_
    refine WC.ret ?_
    refine At.thenret ?_
    refine fin1' rfl (by rfl) ?_
    refine RetP.mk hs ?_
    simp_all [TPolicy.ext_iff]
  ·
    replace h1 := not_eq_false h1
    replace h1 := beq_true h1
    refine WC.skipn ?_
    refine WC.seq' ?_
    refine WC.seq ?_
    refine WL.p (by rfl) (Yl.fieldAddr fa47_1 (by rfl)) ?_
    refine WL.p (by rfl) (Yl.loadB sca42 (by rfl) hs (by repeat (first | exact List.mem_cons_self | apply List.mem_cons_of_mem)) (by rfl)) ?_
    refine WL.p (by rfl) (Yl.fieldAddr fa47_1 (by rfl)) ?_
    refine WL.p (by rfl) (Yl.loadB sca42 (by rfl) hs (by repeat (first | exact List.mem_cons_self | apply List.mem_cons_of_mem)) (by rfl)) ?_
    refine WL.callp hs (by rfl) (Yc.func (by rfl) fn62) (c_laws_eqStringS _ _ _ (Ph.old h_a.scripts hs) (Ph.old h_b.scripts hs)) ?_
    clear hs; intro w hs
    refine WL.p (by rfl) (Yl.not (by rfl)) ?_
    refine WL.next ?_
    refine WC.condS (by rfl) (fun h2 => ?_) (fun h2 => ?_)
    ·
      replace h2 := not_eq_true h2
      replace h2 := of_decide_eq_false h2
      refine WC.seq ?_
      refine WL.p (by rfl) (Yl.assign (by rfl)) ?_
      refine WL.next ?_
      refine WC.ret ?_
      refine At.thenret ?_
      refine fin1' rfl (by rfl) ?_
      refine RetP.mk hs ?_
      simp_all [TPolicy.ext_iff]
    ·
      replace h2 := not_eq_false h2
      replace h2 := of_decide_eq_true h2
      refine WC.skipn ?_
      refine WC.seq' ?_
      refine WC.seq ?_
      refine WL.p (by rfl) (Yl.fieldAddr fa47_2 (by rfl)) ?_
      refine WL.p (by rfl) (Yl.loadB sca42 (by rfl) hs (by repeat (first | exact List.mem_cons_self | apply List.mem_cons_of_mem)) (by rfl)) ?_
      refine WL.p (by rfl) (Yl.fieldAddr fa47_2 (by rfl)) ?_
      refine WL.p (by rfl) (Yl.loadB sca42 (by rfl) hs (by repeat (first | exact List.mem_cons_self | apply List.mem_cons_of_mem)) (by rfl)) ?_
      refine WL.callp hs (by rfl) (Yc.func (by rfl) fn62) (c_laws_eqStringS _ _ _ (Ph.old h_a.styles hs) (Ph.old h_b.styles hs)) ?_
      clear hs; intro w hs
      refine WL.p (by rfl) (Yl.not (by rfl)) ?_
      refine WL.next ?_
      refine WC.condS (by rfl) (fun h3 => ?_) (fun h3 => ?_)
      ·
        replace h3 := not_eq_true h3
        replace h3 := of_decide_eq_false h3
        refine WC.seq ?_
        refine WL.p (by rfl) (Yl.assign (by rfl)) ?_
        refine WL.next ?_
        refine WC.ret ?_
        refine At.thenret ?_
        refine fin1' rfl (by rfl) ?_
        refine RetP.mk hs ?_
        simp_all [TPolicy.ext_iff]
      ·
        replace h3 := not_eq_false h3
        replace h3 := of_decide_eq_true h3
        refine WC.skipn ?_
        refine WC.seq' ?_
        refine WC.seq ?_
        refine WL.p (by rfl) (Yl.fieldAddr fa47_3 (by rfl)) ?_
        refine WL.p (by rfl) (Yl.loadB sca42 (by rfl) hs (by repeat (first | exact List.mem_cons_self | apply List.mem_cons_of_mem)) (by rfl)) ?_
        refine WL.p (by rfl) (Yl.fieldAddr fa47_3 (by rfl)) ?_
        refine WL.p (by rfl) (Yl.loadB sca42 (by rfl) hs (by repeat (first | exact List.mem_cons_self | apply List.mem_cons_of_mem)) (by rfl)) ?_
        refine WL.callp hs (by rfl) (Yc.func (by rfl) fn62) (c_laws_eqStringS _ _ _ (Ph.old h_a.images hs) (Ph.old h_b.images hs)) ?_
        clear hs; intro w hs
        refine WL.p (by rfl) (Yl.not (by rfl)) ?_
        refine WL.next ?_
        refine WC.condS (by rfl) (fun h4 => ?_) (fun h4 => ?_)
        ·
          replace h4 := not_eq_true h4
          replace h4 := of_decide_eq_false h4
          refine WC.seq ?_
          refine WL.p (by rfl) (Yl.assign (by rfl)) ?_
          refine WL.next ?_
          refine WC.ret ?_
          refine At.thenret ?_
          refine fin1' rfl (by rfl) ?_
          refine RetP.mk hs ?_
          simp_all [TPolicy.ext_iff]
        ·
          replace h4 := not_eq_false h4
          replace h4 := of_decide_eq_true h4
          refine WC.skipn ?_
          refine WC.seq' ?_
          refine WC.seq ?_
          refine WL.p (by rfl) (Yl.fieldAddr fa47_4 (by rfl)) ?_
          refine WL.p (by rfl) (Yl.loadB sca9 (by rfl) hs (by repeat (first | exact List.mem_cons_self | apply List.mem_cons_of_mem)) (by rfl)) ?_
          refine WL.p (by rfl) (Yl.fieldAddr fa47_4 (by rfl)) ?_
          refine WL.p (by rfl) (Yl.loadB sca9 (by rfl) hs (by repeat (first | exact List.mem_cons_self | apply List.mem_cons_of_mem)) (by rfl)) ?_
          refine WL.p (by rfl) (Yl.nes (by rfl) (by rfl)) ?_
          refine WL.next ?_
          refine WC.condS (by rfl) (fun h5 => ?_) (fun h5 => ?_)
          ·
            replace h5 := not_eq_true h5
            replace h5 := of_decide_eq_false h5
            refine WC.seq ?_
            refine WL.p (by rfl) (Yl.assign (by rfl)) ?_
            refine WL.next ?_
            refine WC.ret ?_
            refine At.thenret ?_
            refine fin1' rfl (by rfl) ?_
            refine RetP.mk hs ?_
            simp_all [TPolicy.ext_iff]
          ·
            replace h5 := not_eq_false h5
            replace h5 := of_decide_eq_true h5
            refine WC.skipn ?_
            refine WC.seq ?_
            refine WL.p (by rfl) (Yl.assign (by rfl)) ?_
            refine WL.next ?_
            refine WC.ret ?_
            refine fin1' rfl (by rfl) ?_
            refine RetP.mk hs ?_
            simp_all [TPolicy.ext_iff]

theorem c_spec_AllowsInline (p : PPolicy) (nonce : Str) (w : World) (h_p : Ph.ok w p)  : Calls Try.prog 27 [.agg #[Bo p.set, Sl.v p.scripts, Sl.v p.styles, Sl.v p.images, S p.nonce], S nonce].toArray w (RetP w (Bo (p.lg.inl nonce))) := by
  refine enterN 19 Try.func27 rfl rfl rfl ?_
  have hs := Sat.start w
  refine WC.seq ?_
  refine WL.r (by rfl) (Yr.box hs (by rfl) (by rfl)) ?_
  clear hs; rintro _ w ⟨b1, rfl, hb, hs⟩; clear hb
  refine WL.p (by rfl) (Yl.assign (by rfl)) ?_
  refine WL.next ?_
  refine WC.seq ?_
  refine WL.p (by rfl) (Yl.fieldAddr fa47_0 (by rfl)) ?_
  refine WL.p (by rfl) (Yl.loadB sca4 (by rfl) hs (by repeat (first | exact List.mem_cons_self | apply List.mem_cons_of_mem)) (by rfl)) ?_
  refine WL.p (by rfl) (Yl.not (by rfl)) ?_
  refine WL.p (by rfl) (Yl.move (by rfl)) ?_
  refine WL.split (d := 8) (by rfl) (fun h1 => ?_) (fun h1 => ?_)
  ·
    replace h1 := not_eq_true h1
    refine WL.skip (d := 8) (by rfl) (by rfl) (by rfl) (by rfl) ?_
    refine WL.skip (d := 8) (by rfl) (by rfl) (by rfl) (by rfl) ?_
    refine WL.skip (d := 8) (by rfl) (by rfl) (by rfl) (by rfl) ?_
    refine WL.skip (d := 8) (by rfl) (by rfl) (by rfl) (by rfl) ?_
    refine WL.skipU (d := 12) (by rfl) (by rfl) (by rfl) ?_
    refine WL.skipU (d := 12) (by rfl) (by rfl) (by rfl) ?_
    refine WL.skipU (d := 12) (by rfl) (by rfl) (by rfl) ?_
    refine WL.skipU (d := 12) (by rfl) (by rfl) (by rfl) ?_
    refine WL.skip (d := 8) (by rfl) (by rfl) (by rfl) (by rfl) ?_
    refine WL.p (by rfl) (Yl.pickT (by rfl) (by rfl)) ?_
    refine WL.p (by rfl) (Yl.assign (by rfl)) ?_
    refine WL.next ?_
    refine WC.ret ?_
    refine fin1' rfl (by rfl) ?_
    refine RetP.mk hs ?_
    simp_all [TPolicy.inl]
  ·
    replace h1 := not_eq_false h1
    refine WL.run (d := 8) (by rfl) (by rfl) ?_
    refine WL.p (by rfl) (Yl.fieldAddr fa47_4 (by rfl)) ?_
    refine WL.run (d := 8) (by rfl) (by rfl) ?_
    refine WL.p (by rfl) (Yl.loadB sca9 (by rfl) hs (by repeat (first | exact List.mem_cons_self | apply List.mem_cons_of_mem)) (by rfl)) ?_
    refine WL.run (d := 8) (by rfl) (by rfl) ?_
    refine WL.p (by rfl) (Yl.nes (by rfl) (by rfl)) ?_
    refine WL.run (d := 8) (by rfl) (by rfl) ?_
    refine WL.p (by rfl) (Yl.move (by rfl)) ?_
    refine WL.split (d := 12) (by rfl) (fun h2 => ?_) (fun h2 => ?_)
    ·
      replace h2 := not_eq_true h2
      replace h2 := of_decide_eq_false h2
      refine WL.run (d := 12) (by rfl) (by rfl) ?_
      refine WL.p (by rfl) (Yl.fieldAddr fa47_4 (by rfl)) ?_
      refine WL.run (d := 12) (by rfl) (by rfl) ?_
      refine WL.p (by rfl) (Yl.loadB sca9 (by rfl) hs (by repeat (first | exact List.mem_cons_self | apply List.mem_cons_of_mem)) (by rfl)) ?_
      refine WL.run (d := 12) (by rfl) (by rfl) ?_
      refine WL.p (by rfl) (Yl.move (by rfl)) ?_
      refine WL.run (d := 12) (by rfl) (by rfl) ?_
      refine WL.p (by rfl) (Yl.eqs (by rfl) (by rfl)) ?_
      refine WL.run (d := 8) (by rfl) (by rfl) ?_
      refine WL.p (by rfl) (Yl.pickT (by rfl) (by rfl)) ?_
      refine WL.p (by rfl) (Yl.pickF (by rfl) (by rfl)) ?_
      refine WL.p (by rfl) (Yl.assign (by rfl)) ?_
      refine WL.next ?_
      refine WC.ret ?_
      refine fin1' rfl (by rfl) ?_
      refine RetP.mk hs ?_
      simp_all [TPolicy.inl]
    ·
      replace h2 := not_eq_false h2
      replace h2 := of_decide_eq_true h2
      refine WL.skip (d := 12) (by rfl) (by rfl) (by rfl) (by rfl) ?_
      refine WL.skip (d := 12) (by rfl) (by rfl) (by rfl) (by rfl) ?_
      refine WL.skip (d := 12) (by rfl) (by rfl) (by rfl) (by rfl) ?_
      refine WL.skip (d := 12) (by rfl) (by rfl) (by rfl) (by rfl) ?_
      refine WL.run (d := 8) (by rfl) (by rfl) ?_
      refine WL.p (by rfl) (Yl.pickF (by rfl) (by rfl)) ?_
      refine WL.p (by rfl) (Yl.pickF (by rfl) (by rfl)) ?_
      refine WL.p (by rfl) (Yl.assign (by rfl)) ?_
      refine WL.next ?_
      refine WC.ret ?_
      refine fin1' rfl (by rfl) ?_
      refine RetP.mk hs ?_
      simp_all [TPolicy.inl]

theorem c_impl_AllowsInline (p : PPolicy) (nonce : Str) (w : World) (h_p : Ph.ok w p)  : Calls Try.prog 29 [.agg #[Bo p.set, Sl.v p.scripts, Sl.v p.styles, Sl.v p.images, S p.nonce], S nonce].toArray w (RetP w (Bo (p.lg.inl nonce))) := by
  refine enterN 19 Try.func29 rfl rfl rfl ?_
  have hs := Sat.start w
  refine WC.seq ?_
  refine WL.r (by rfl) (Yr.box hs (by rfl) (by rfl)) ?_
  clear hs; rintro _ w ⟨b1, rfl, hb, hs⟩; clear hb
  refine WL.p (by rfl) (Yl.assign (by rfl)) ?_
  refine WL.next ?_
  refine WC.seq ?_
  refine WL.p (by rfl) (Yl.fieldAddr fa47_0 (by rfl)) ?_
  refine WL.p (by rfl) (Yl.loadB sca4 (by rfl) hs (by repeat (first | exact List.mem_cons_self | apply List.mem_cons_of_mem)) (by rfl)) ?_
  refine WL.p (by rfl) (Yl.not (by rfl)) ?_
  refine WL.p (by rfl) (Yl.move (by rfl)) ?_
  refine WL.split (d := 8) (by rfl) (fun h1 => ?_) (fun h1 => ?_)
  ·
    replace h1 := not_eq_true h1
    refine WL.skip (d := 8) (by rfl) (by rfl) (by rfl) (by rfl) ?_
    refine WL.skip (d := 8) (by rfl) (by rfl) (by rfl) (by rfl) ?_
    refine WL.skip (d := 8) (by rfl) (by rfl) (by rfl) (by rfl) ?_
    refine WL.skip (d := 8) (by rfl) (by rfl) (by rfl) (by rfl) ?_
    refine WL.skipU (d := 12) (by rfl) (by rfl) (by rfl) ?_
    refine WL.skipU (d := 12) (by rfl) (by rfl) (by rfl) ?_
    refine WL.skipU (d := 12) (by rfl) (by rfl) (by rfl) ?_
    refine WL.skipU (d := 12) (by rfl) (by rfl) (by rfl) ?_
    refine WL.skip (d := 8) (by rfl) (by rfl) (by rfl) (by rfl) ?_
    refine WL.p (by rfl) (Yl.pickT (by rfl) (by rfl)) ?_
    refine WL.p (by rfl) (Yl.assign (by rfl)) ?_
    refine WL.next ?_
    refine WC.ret ?_
    refine fin1' rfl (by rfl) ?_
    refine RetP.mk hs ?_
    simp_all [TPolicy.inl]
  ·
    replace h1 := not_eq_false h1
    refine WL.run (d := 8) (by rfl) (by rfl) ?_
    refine WL.p (by rfl) (Yl.fieldAddr fa47_4 (by rfl)) ?_
    refine WL.run (d := 8) (by rfl) (by rfl) ?_
    refine WL.p (by rfl) (Yl.loadB sca9 (by rfl) hs (by repeat (first | exact List.mem_cons_self | apply List.mem_cons_of_mem)) (by rfl)) ?_
    refine WL.run (d := 8) (by rfl) (by rfl) ?_
    refine WL.p (by rfl) (Yl.nes (by rfl) (by rfl)) ?_
    refine WL.run (d := 8) (by rfl) (by rfl) ?_
    refine WL.p (by rfl) (Yl.move (by rfl)) ?_
    refine WL.split (d := 12) (by rfl) (fun h2 => ?_) (fun h2 => ?_)
    ·
      replace h2 := not_eq_true h2
      replace h2 := of_decide_eq_false h2
      refine WL.run (d := 12) (by rfl) (by rfl) ?_
      refine WL.p (by rfl) (Yl.fieldAddr fa47_4 (by rfl)) ?_
      refine WL.run (d := 12) (by rfl) (by rfl) ?_
      refine WL.p (by rfl) (Yl.loadB sca9 (by rfl) hs (by repeat (first | exact List.mem_cons_self | apply List.mem_cons_of_mem)) (by rfl)) ?_
      refine WL.run (d := 12) (by rfl) (by rfl) ?_
      refine WL.p (by rfl) (Yl.move (by rfl)) ?_
      refine WL.run (d := 12) (by rfl) (by rfl) ?_
      refine WL.p (by rfl) (Yl.eqs (by rfl) (by rfl)) ?_
      refine WL.run (d := 8) (by rfl) (by rfl) ?_
      refine WL.p (by rfl) (Yl.pickT (by rfl) (by rfl)) ?_
      refine WL.p (by rfl) (Yl.pickF (by rfl) (by rfl)) ?_
      refine WL.p (by rfl) (Yl.assign (by rfl)) ?_
      refine WL.next ?_
      refine WC.ret ?_
      refine fin1' rfl (by rfl) ?_
      refine RetP.mk hs ?_
      simp_all [TPolicy.inl]
    ·
      replace h2 := not_eq_false h2
      replace h2 := of_decide_eq_true h2
      refine WL.skip (d := 12) (by rfl) (by rfl) (by rfl) (by rfl) ?_
      refine WL.skip (d := 12) (by rfl) (by rfl) (by rfl) (by rfl) ?_
      refine WL.skip (d := 12) (by rfl) (by rfl) (by rfl) (by rfl) ?_
      refine WL.skip (d := 12) (by rfl) (by rfl) (by rfl) (by rfl) ?_
      refine WL.run (d := 8) (by rfl) (by rfl) ?_
      refine WL.p (by rfl) (Yl.pickF (by rfl) (by rfl)) ?_
      refine WL.p (by rfl) (Yl.pickF (by rfl) (by rfl)) ?_
      refine WL.p (by rfl) (Yl.assign (by rfl)) ?_
      refine WL.next ?_
      refine WC.ret ?_
      refine fin1' rfl (by rfl) ?_
      refine RetP.mk hs ?_
      simp_all [TPolicy.inl]

theorem c_spec_l9Same (a : (Sl Str)) (b : (Sl Str)) (w : World) (h_a : Ph.ok w a) (h_b : Ph.ok w b)  : Calls Try.prog 71 [Sl.v a, Sl.v b].toArray w (RetP w (Bo (decide (a.l = b.l)))) := by
  have hw := h_a.lt
  refine enterN 26 Try.func71 rfl rfl rfl ?_
  have hs := Sat.start w
  refine WC.seq ?_
  refine WL.p (by rfl) (Yl.assign (by rfl)) ?_
  refine WL.next ?_
  refine WC.seq' ?_
  refine WC.seq ?_
  refine WL.p (by rfl) (Yl.move (by rfl)) ?_
  refine WL.p (by rfl) (Yl.len_sl slu42 (by rfl)) ?_
  refine WL.p (by rfl) (Yl.move (by rfl)) ?_
  refine WL.p (by rfl) (Yl.len_sl slu42 (by rfl)) ?_
  refine WL.p (by rfl) (Yl.nei (by rfl) (by rfl)) ?_
  refine WL.next ?_
  refine WC.condS (by rfl) (fun h1 => ?_) (fun h1 => ?_)
  ·
    replace h1 := not_eq_true h1
    replace h1 := of_decide_eq_false h1
    refine WC.seq ?_
    refine WL.p (by rfl) (Yl.assign (by rfl)) ?_
    refine WL.next ?_
    refine WC.ret ?_
    refine At.thenret ?_
    refine fin1' rfl (by rfl) ?_
    refine RetP.mk hs ?_
    have hne : ¬ a.l = b.l := by intro h; rw [h] at h1; omega
    simp [hne]
  ·
    replace h1 := not_eq_false h1
    replace h1 := of_decide_eq_true h1
    refine WC.skipn ?_
    refine WC.seq' ?_
    refine WC.seq ?_
    refine WL.p (by rfl) (Yl.assign (by rfl)) ?_
    refine WL.next ?_
    refine WC.block ?_
    refine WC.loopC (ι := Nat) (fun k => a.l.length - k) (fun k => [(5, I (k : Int))]) (fun _ => []) (fun k => decide (a.l = b.l) = decide (a.l.drop k = b.l.drop k)) [(0, _), (1, _), (6, _), (7, _), (8, _), (9, _), (10, _)] 0 (hs) ⟨by rfl, by rfl, by rfl, by rfl, by rfl, by rfl, by rfl, trivial⟩ ⟨by rfl, trivial⟩ ?_ ?_
    ·
      simp
    clear hs; rintro k w hJ hs
    simp only [List.nil_append] at hs
    refine WC.seq' ?_
    refine WC.seq ?_
    refine WL.p (by rfl) (Yl.move (by rfl)) ?_
    refine WL.p (by rfl) (Yl.move (by rfl)) ?_
    refine WL.p (by rfl) (Yl.len_sl slu42 (by rfl)) ?_
    refine WL.p (by rfl) (Yl.lss (by rfl) (by rfl)) ?_
    refine WL.next ?_
    refine WC.condS (by rfl) (fun h2 => ?_) (fun h2 => ?_)
    ·
      replace h2 := of_decide_eq_true h2
      obtain ⟨d, hd⟩ := exists_get (l := a.l) (k := k) (by omega)
      obtain ⟨d2, hd2⟩ := exists_get (l := b.l) (k := k) (by omega)
      rw [drop_cons hd, drop_cons hd2] at hJ
      refine WC.skipn ?_
      refine WC.seq' ?_
      refine WC.block ?_
      refine WC.quietn mixed (by kernel_rfl) hs ?_
      refine WQ.p (by rfl) (fun w hs => Yl.move (by rfl)) ?_
      refine WQ.p (by rfl) (fun w hs => Yl.move (by rfl)) ?_
      refine WQ.p (by rfl) (fun w hs => Yl.indexAddr slt42 (by rfl) (by rfl) (Ph.old h_a hs) (by rfl) (hd)) ?_
      refine WQ.p (by rfl) (fun w hs => Yl.loadC0 sca9 (by rfl) (Sl.Ok.at_ (Ph.old h_a hs) (by assumption)).2 (by rfl)) ?_
      refine WQ.p (by rfl) (fun w hs => Yl.move (by rfl)) ?_
      refine WQ.p (by rfl) (fun w hs => Yl.move (by rfl)) ?_
      refine WQ.p (by rfl) (fun w hs => Yl.indexAddr slt42 (by rfl) (by rfl) (Ph.old h_b hs) (by rfl) (hd2)) ?_
      refine WQ.p (by rfl) (fun w hs => Yl.loadC0 sca9 (by rfl) (Sl.Ok.at_ (Ph.old h_b hs) (by assumption)).2 (by rfl)) ?_
      refine WQ.p (by rfl) (fun w hs => Yl.nes (by rfl) (by rfl)) ?_
      refine WQ.next ?_
      clear hs; intro w hs
      refine WC.condS (by rfl) (fun h3 => ?_) (fun h3 => ?_)
      ·
        replace h3 := not_eq_true h3
        replace h3 := of_decide_eq_false h3
        refine WC.seq ?_
        refine WL.p (by rfl) (Yl.assign (by rfl)) ?_
        refine WL.next ?_
        refine WC.ret ?_
        refine At.blockret ?_
        refine At.thenret ?_
        refine At.thenret ?_
        refine At.blockret ?_
        refine At.thenret ?_
        refine fin1' rfl (by rfl) ?_
        refine RetP.mk hs ?_
        rw [hJ]; simp_all
      ·
        replace h3 := not_eq_false h3
        replace h3 := of_decide_eq_true h3
        refine WC.skip ?_
        refine At.blocknormal ?_
        refine At.then_ ?_
        refine WC.region ?_
        refine WL.p (by rfl) (Yl.move (by rfl)) ?_
        refine WL.p (by rfl) (Yl.add (by rfl) (by rfl) (by omega)) ?_
        refine WL.p (by rfl) (Yl.assign (by rfl)) ?_
        refine WL.nil ?_
        refine At.roundC (k + 1) (hs.only (by repeat (first | exact Sel.nil | (apply Sel.cons; (repeat (first | exact Ext.here | apply Ext.there)))))) ⟨by rfl, by rfl, by rfl, by rfl, by rfl, by rfl, by rfl, trivial⟩ ⟨by rfl, trivial⟩ ?_ ?_
        ·
          omega
        ·
          rw [hJ]; simp_all
    ·
      replace h2 := of_decide_eq_false h2
      rw [drop_out (l := a.l) (by omega), drop_out (l := b.l) (by omega)] at hJ
      refine WC.exit ?_
      refine At.thenexit ?_
      refine At.thenexit ?_
      refine At.blockexit ?_
      refine At.then_ ?_
      refine WC.seq ?_
      refine WL.p (by rfl) (Yl.assign (by rfl)) ?_
      refine WL.next ?_
      refine WC.ret ?_
      refine fin1' rfl (by rfl) ?_
      refine RetP.mk hs ?_
      rw [hJ]; simp_all

theorem c_slices_Equal___string_string_ (s1 : (Sl Str)) (s2 : (Sl Str)) (w : World) (h_s1 : Ph.ok w s1) (h_s2 : Ph.ok w s2)  : Calls Try.prog 72 [Sl.v s1, Sl.v s2].toArray w (RetP w (Bo (decide (s1.l = s2.l)))) := by
  have hw := h_s1.lt
  refine enterN 26 Try.func72 rfl rfl rfl ?_
  have hs := Sat.start w
  refine WC.seq ?_
  refine WL.p (by rfl) (Yl.assign (by rfl)) ?_
  refine WL.next ?_
  refine WC.seq' ?_
  refine WC.seq ?_
  refine WL.p (by rfl) (Yl.move (by rfl)) ?_
  refine WL.p (by rfl) (Yl.len_sl slu42 (by rfl)) ?_
  refine WL.p (by rfl) (Yl.move (by rfl)) ?_
  refine WL.p (by rfl) (Yl.len_sl slu42 (by rfl)) ?_
  refine WL.p (by rfl) (Yl.nei (by rfl) (by rfl)) ?_
  refine WL.next ?_
  refine WC.condS (by rfl) (fun h1 => ?_) (fun h1 => ?_)
  ·
    replace h1 := not_eq_true h1
    replace h1 := of_decide_eq_false h1
    refine WC.seq ?_
    refine WL.p (by rfl) (Yl.assign (by rfl)) ?_
    refine WL.next ?_
    refine WC.ret ?_
    refine At.thenret ?_
    refine fin1' rfl (by rfl) ?_
    refine RetP.mk hs ?_
    have hne : ¬ s1.l = s2.l := by intro h; rw [h] at h1; omega
    simp [hne]
  ·
    replace h1 := not_eq_false h1
    replace h1 := of_decide_eq_true h1
    refine WC.skipn ?_
    refine WC.seq' ?_
    refine WC.seq ?_
    refine WL.p (by rfl) (Yl.move (by rfl)) ?_
    refine WL.p (by rfl) (Yl.len_sl slu42 (by rfl)) ?_
    refine WL.p (by rfl) (Yl.move (by rfl)) ?_
    refine WL.next ?_
    refine WC.block ?_
    refine WC.loopC (ι := Nat) (fun k => s1.l.length - k) (fun k => [(13, I (k : Int))]) (fun _ => []) (fun k => decide (s1.l = s2.l) = decide (s1.l.drop k = s2.l.drop k)) [(0, _), (1, _), (6, _), (7, _), (8, _), (9, _), (10, _), (11, _), (12, _)] 0 (hs) ⟨by rfl, by rfl, by rfl, by rfl, by rfl, by rfl, by rfl, by rfl, by rfl, trivial⟩ ⟨by rfl, trivial⟩ ?_ ?_
    ·
      simp
    clear hs; rintro k w hJ hs
    simp only [List.nil_append] at hs
    refine WC.seq ?_
    refine WL.p (by rfl) (Yl.lss (by rfl) (by rfl)) ?_
    refine WL.next ?_
    refine WC.seq' ?_
    refine WC.condS (by rfl) (fun h2 => ?_) (fun h2 => ?_)
    ·
      replace h2 := of_decide_eq_true h2
      obtain ⟨d, hd⟩ := exists_get (l := s1.l) (k := k) (by omega)
      obtain ⟨d2, hd2⟩ := exists_get (l := s2.l) (k := k) (by omega)
      rw [drop_cons hd, drop_cons hd2] at hJ
      refine WC.skipn ?_
      refine WC.seq' ?_
      refine WC.block ?_
      refine WC.seq ?_
      refine WL.p (by rfl) (Yl.move (by rfl)) ?_
      refine WL.p (by rfl) (Yl.assign (by rfl)) ?_
      refine WL.next ?_
      refine WC.quietn mixed (by kernel_rfl) hs ?_
      refine WQ.p (by rfl) (fun w hs => Yl.move (by rfl)) ?_
      refine WQ.p (by rfl) (fun w hs => Yl.move (by rfl)) ?_
      refine WQ.p (by rfl) (fun w hs => Yl.indexAddr slt42 (by rfl) (by rfl) (Ph.old h_s1 hs) (by rfl) (hd)) ?_
      refine WQ.p (by rfl) (fun w hs => Yl.loadC0 sca9 (by rfl) (Sl.Ok.at_ (Ph.old h_s1 hs) (by assumption)).2 (by rfl)) ?_
      refine WQ.p (by rfl) (fun w hs => Yl.move (by rfl)) ?_
      refine WQ.p (by rfl) (fun w hs => Yl.move (by rfl)) ?_
      refine WQ.p (by rfl) (fun w hs => Yl.indexAddr slt42 (by rfl) (by rfl) (Ph.old h_s2 hs) (by rfl) (hd2)) ?_
      refine WQ.p (by rfl) (fun w hs => Yl.loadC0 sca9 (by rfl) (Sl.Ok.at_ (Ph.old h_s2 hs) (by assumption)).2 (by rfl)) ?_
      refine WQ.p (by rfl) (fun w hs => Yl.nes (by rfl) (by rfl)) ?_
      refine WQ.next ?_
      clear hs; intro w hs
      refine WC.condS (by rfl) (fun h3 => ?_) (fun h3 => ?_)
      ·
        replace h3 := not_eq_true h3
        replace h3 := of_decide_eq_false h3
        refine WC.seq ?_
        refine WL.p (by rfl) (Yl.assign (by rfl)) ?_
        refine WL.next ?_
        refine WC.ret ?_
        refine At.blockret ?_
        refine At.thenret ?_
        refine At.thenret ?_
        refine At.blockret ?_
        refine At.thenret ?_
        refine fin1' rfl (by rfl) ?_
        refine RetP.mk hs ?_
        rw [hJ]; simp_all
      ·
        replace h3 := not_eq_false h3
        replace h3 := of_decide_eq_true h3
        refine WC.skip ?_
        refine At.blocknormal ?_
        refine At.then_ ?_
        refine WC.region ?_
        refine WL.p (by rfl) (Yl.add (by rfl) (by rfl) (by omega)) ?_
        refine WL.p (by rfl) (Yl.move (by rfl)) ?_
        refine WL.nil ?_
        refine At.roundC (k + 1) (hs.only (by repeat (first | exact Sel.nil | (apply Sel.cons; (repeat (first | exact Ext.here | apply Ext.there)))))) ⟨by rfl, by rfl, by rfl, by rfl, by rfl, by rfl, by rfl, by rfl, by rfl, trivial⟩ ⟨by rfl, trivial⟩ ?_ ?_
        ·
          omega
        ·
          rw [hJ]; simp_all
    ·
      replace h2 := of_decide_eq_false h2
      rw [drop_out (l := s1.l) (by omega), drop_out (l := s2.l) (by omega)] at hJ
      refine WC.exit ?_
      refine At.thenexit ?_
      refine At.thenexit ?_
      refine At.blockexit ?_
      refine At.then_ ?_
      refine WC.seq ?_
      refine WL.p (by rfl) (Yl.assign (by rfl)) ?_
      refine WL.next ?_
      refine WC.ret ?_
      refine fin1' rfl (by rfl) ?_
      refine RetP.mk hs ?_
      rw [hJ]; simp_all

theorem c_spec_EqualPolicies (a : PPolicy) (b : PPolicy) (w : World) (h_a : Ph.ok w a) (h_b : Ph.ok w b)  : Calls Try.prog 35 [.agg #[Bo a.set, Sl.v a.scripts, Sl.v a.styles, Sl.v a.images, S a.nonce], .agg #[Bo b.set, Sl.v b.scripts, Sl.v b.styles, Sl.v b.images, S b.nonce]].toArray w (RetP w (Bo (decide (a.lg = b.lg)))) := by
  refine enterN 38 Try.func35 rfl rfl rfl ?_
  have hs := Sat.start w
  refine WC.seq ?_
  refine WL.r (by rfl) (Yr.box hs (by rfl) (by rfl)) ?_
  clear hs; rintro _ w ⟨b1, rfl, hb, hs⟩; clear hb
  refine WL.r (by rfl) (Yr.box hs (by rfl) (by rfl)) ?_
  clear hs; rintro _ w ⟨b2, rfl, hb, hs⟩; clear hb
  refine WL.p (by rfl) (Yl.assign (by rfl)) ?_
  refine WL.next ?_
  refine WC.seq ?_
  refine WL.p (by rfl) (Yl.fieldAddr fa47_0 (by rfl)) ?_
  refine WL.p (by rfl) (Yl.loadB sca4 (by rfl) hs (by repeat (first | exact List.mem_cons_self | apply List.mem_cons_of_mem)) (by rfl)) ?_
  refine WL.p (by rfl) (Yl.fieldAddr fa47_0 (by rfl)) ?_
  refine WL.p (by rfl) (Yl.loadB sca4 (by rfl) hs (by repeat (first | exact List.mem_cons_self | apply List.mem_cons_of_mem)) (by rfl)) ?_
  refine WL.p (by rfl) (Yl.eqb bool4 (by rfl) (by rfl)) ?_
  refine WL.p (by rfl) (Yl.move (by rfl)) ?_
  refine WL.split (d := 10) (by rfl) (fun h1 => ?_) (fun h1 => ?_)
  ·
    replace h1 := beq_true h1
    refine WL.run (d := 10) (by rfl) (by rfl) ?_
    refine WL.p (by rfl) (Yl.fieldAddr fa47_1 (by rfl)) ?_
    refine WL.run (d := 10) (by rfl) (by rfl) ?_
    refine WL.p (by rfl) (Yl.loadB sca42 (by rfl) hs (by repeat (first | exact List.mem_cons_self | apply List.mem_cons_of_mem)) (by rfl)) ?_
    refine WL.run (d := 10) (by rfl) (by rfl) ?_
    refine WL.p (by rfl) (Yl.fieldAddr fa47_1 (by rfl)) ?_
    refine WL.run (d := 10) (by rfl) (by rfl) ?_
    refine WL.p (by rfl) (Yl.loadB sca42 (by rfl) hs (by repeat (first | exact List.mem_cons_self | apply List.mem_cons_of_mem)) (by rfl)) ?_
    refine WL.run (d := 10) (by rfl) (by rfl) ?_
    refine WL.callp hs (by rfl) (Yc.func (by rfl) fn71) (c_spec_l9Same _ _ _ (Ph.old h_a.scripts hs) (Ph.old h_b.scripts hs)) ?_
    clear hs; intro w hs
    refine WL.p (by rfl) (Yl.pickT (by rfl) (by rfl)) ?_
    refine WL.p (by rfl) (Yl.move (by rfl)) ?_
    refine WL.split (d := 17) (by rfl) (fun h2 => ?_) (fun h2 => ?_)
    ·
      replace h2 := of_decide_eq_true h2
      refine WL.run (d := 17) (by rfl) (by rfl) ?_
      refine WL.p (by rfl) (Yl.fieldAddr fa47_2 (by rfl)) ?_
      refine WL.run (d := 17) (by rfl) (by rfl) ?_
      refine WL.p (by rfl) (Yl.loadB sca42 (by rfl) hs (by repeat (first | exact List.mem_cons_self | apply List.mem_cons_of_mem)) (by rfl)) ?_
      refine WL.run (d := 17) (by rfl) (by rfl) ?_
      refine WL.p (by rfl) (Yl.fieldAddr fa47_2 (by rfl)) ?_
      refine WL.run (d := 17) (by rfl) (by rfl) ?_
      refine WL.p (by rfl) (Yl.loadB sca42 (by rfl) hs (by repeat (first | exact List.mem_cons_self | apply List.mem_cons_of_mem)) (by rfl)) ?_
      refine WL.run (d := 17) (by rfl) (by rfl) ?_
      refine WL.callp hs (by rfl) (Yc.func (by rfl) fn71) (c_spec_l9Same _ _ _ (Ph.old h_a.styles hs) (Ph.old h_b.styles hs)) ?_
      clear hs; intro w hs
      refine WL.p (by rfl) (Yl.pickT (by rfl) (by rfl)) ?_
      refine WL.p (by rfl) (Yl.move (by rfl)) ?_
      refine WL.split (d := 24) (by rfl) (fun h3 => ?_) (fun h3 => ?_)
      ·
        replace h3 := of_decide_eq_true h3
        refine WL.run (d := 24) (by rfl) (by rfl) ?_
        refine WL.p (by rfl) (Yl.fieldAddr fa47_3 (by rfl)) ?_
        refine WL.run (d := 24) (by rfl) (by rfl) ?_
        refine WL.p (by rfl) (Yl.loadB sca42 (by rfl) hs (by repeat (first | exact List.mem_cons_self | apply List.mem_cons_of_mem)) (by rfl)) ?_
        refine WL.run (d := 24) (by rfl) (by rfl) ?_
        refine WL.p (by rfl) (Yl.fieldAddr fa47_3 (by rfl)) ?_
        refine WL.run (d := 24) (by rfl) (by rfl) ?_
        refine WL.p (by rfl) (Yl.loadB sca42 (by rfl) hs (by repeat (first | exact List.mem_cons_self | apply List.mem_cons_of_mem)) (by rfl)) ?_
        refine WL.run (d := 24) (by rfl) (by rfl) ?_
        refine WL.callp hs (by rfl) (Yc.func (by rfl) fn71) (c_spec_l9Same _ _ _ (Ph.old h_a.images hs) (Ph.old h_b.images hs)) ?_
        clear hs; intro w hs
        refine WL.p (by rfl) (Yl.pickT (by rfl) (by rfl)) ?_
        refine WL.p (by rfl) (Yl.move (by rfl)) ?_
        refine WL.split (d := 31) (by rfl) (fun h4 => ?_) (fun h4 => ?_)
        ·
          replace h4 := of_decide_eq_true h4
          refine WL.run (d := 31) (by rfl) (by rfl) ?_
          refine WL.p (by rfl) (Yl.fieldAddr fa47_4 (by rfl)) ?_
          refine WL.run (d := 31) (by rfl) (by rfl) ?_
          refine WL.p (by rfl) (Yl.loadB sca9 (by rfl) hs (by repeat (first | exact List.mem_cons_self | apply List.mem_cons_of_mem)) (by rfl)) ?_
          refine WL.run (d := 31) (by rfl) (by rfl) ?_
          refine WL.p (by rfl) (Yl.fieldAddr fa47_4 (by rfl)) ?_
          refine WL.run (d := 31) (by rfl) (by rfl) ?_
          refine WL.p (by rfl) (Yl.loadB sca9 (by rfl) hs (by repeat (first | exact List.mem_cons_self | apply List.mem_cons_of_mem)) (by rfl)) ?_
          refine WL.run (d := 31) (by rfl) (by rfl) ?_
          refine WL.p (by rfl) (Yl.eqs (by rfl) (by rfl)) ?_
          refine WL.p (by rfl) (Yl.pickT (by rfl) (by rfl)) ?_
          refine WL.p (by rfl) (Yl.assign (by rfl)) ?_
          refine WL.next ?_
          refine WC.ret ?_
          refine fin1' rfl (by rfl) ?_
          refine RetP.mk hs ?_
          simp_all [TPolicy.ext_iff]
        ·
          replace h4 := of_decide_eq_false h4
          refine WL.skip (d := 31) (by rfl) (by rfl) (by rfl) (by rfl) ?_
          refine WL.skip (d := 31) (by rfl) (by rfl) (by rfl) (by rfl) ?_
          refine WL.skip (d := 31) (by rfl) (by rfl) (by rfl) (by rfl) ?_
          refine WL.skip (d := 31) (by rfl) (by rfl) (by rfl) (by rfl) ?_
          refine WL.skip (d := 31) (by rfl) (by rfl) (by rfl) (by rfl) ?_
          refine WL.p (by rfl) (Yl.pickF (by rfl) (by rfl)) ?_
          refine WL.p (by rfl) (Yl.assign (by rfl)) ?_
          refine WL.next ?_
          refine WC.ret ?_
          refine fin1' rfl (by rfl) ?_
          refine RetP.mk hs ?_
          simp_all [TPolicy.ext_iff]
      ·
        replace h3 := of_decide_eq_false h3
        refine WL.skip (d := 24) (by rfl) (by rfl) (by rfl) (by rfl) ?_
        refine WL.skip (d := 24) (by rfl) (by rfl) (by rfl) (by rfl) ?_
        refine WL.skip (d := 24) (by rfl) (by rfl) (by rfl) (by rfl) ?_
        refine WL.skip (d := 24) (by rfl) (by rfl) (by rfl) (by rfl) ?_
        refine WL.skip (d := 24) (by rfl) (by rfl) (by rfl) (by rfl) ?_
        refine WL.p (by rfl) (Yl.pickF (by rfl) (by rfl)) ?_
        refine WL.p (by rfl) (Yl.move (by rfl)) ?_
        refine WL.skip (d := 31) (by rfl) (by rfl) (by rfl) (by rfl) ?_
        refine WL.skip (d := 31) (by rfl) (by rfl) (by rfl) (by rfl) ?_
        refine WL.skip (d := 31) (by rfl) (by rfl) (by rfl) (by rfl) ?_
        refine WL.skip (d := 31) (by rfl) (by rfl) (by rfl) (by rfl) ?_
        refine WL.skip (d := 31) (by rfl) (by rfl) (by rfl) (by rfl) ?_
        refine WL.p (by rfl) (Yl.pickF (by rfl) (by rfl)) ?_
        refine WL.p (by rfl) (Yl.assign (by rfl)) ?_
        refine WL.next ?_
        refine WC.ret ?_
        refine fin1' rfl (by rfl) ?_
        refine RetP.mk hs ?_
        simp_all [TPolicy.ext_iff]
    ·
      replace h2 := of_decide_eq_false h2
      refine WL.skip (d := 17) (by rfl) (by rfl) (by rfl) (by rfl) ?_
      refine WL.skip (d := 17) (by rfl) (by rfl) (by rfl) (by rfl) ?_
      refine WL.skip (d := 17) (by rfl) (by rfl) (by rfl) (by rfl) ?_
      refine WL.skip (d := 17) (by rfl) (by rfl) (by rfl) (by rfl) ?_
      refine WL.skip (d := 17) (by rfl) (by rfl) (by rfl) (by rfl) ?_
      refine WL.p (by rfl) (Yl.pickF (by rfl) (by rfl)) ?_
      refine WL.p (by rfl) (Yl.move (by rfl)) ?_
      refine WL.skip (d := 24) (by rfl) (by rfl) (by rfl) (by rfl) ?_
      refine WL.skip (d := 24) (by rfl) (by rfl) (by rfl) (by rfl) ?_
      refine WL.skip (d := 24) (by rfl) (by rfl) (by rfl) (by rfl) ?_
      refine WL.skip (d := 24) (by rfl) (by rfl) (by rfl) (by rfl) ?_
      refine WL.skip (d := 24) (by rfl) (by rfl) (by rfl) (by rfl) ?_
      refine WL.p (by rfl) (Yl.pickF (by rfl) (by rfl)) ?_
      refine WL.p (by rfl) (Yl.move (by rfl)) ?_
      refine WL.skip (d := 31) (by rfl) (by rfl) (by rfl) (by rfl) ?_
      refine WL.skip (d := 31) (by rfl) (by rfl) (by rfl) (by rfl) ?_
      refine WL.skip (d := 31) (by rfl) (by rfl) (by rfl) (by rfl) ?_
      refine WL.skip (d := 31) (by rfl) (by rfl) (by rfl) (by rfl) ?_
      refine WL.skip (d := 31) (by rfl) (by rfl) (by rfl) (by rfl) ?_
      refine WL.p (by rfl) (Yl.pickF (by rfl) (by rfl)) ?_
      refine WL.p (by rfl) (Yl.assign (by rfl)) ?_
      refine WL.next ?_
      refine WC.ret ?_
      refine fin1' rfl (by rfl) ?_
      refine RetP.mk hs ?_
      simp_all [TPolicy.ext_iff]
  ·
    replace h1 := beq_false h1
    refine WL.skip (d := 10) (by rfl) (by rfl) (by rfl) (by rfl) ?_
    refine WL.skip (d := 10) (by rfl) (by rfl) (by rfl) (by rfl) ?_
    refine WL.skip (d := 10) (by rfl) (by rfl) (by rfl) (by rfl) ?_
    refine WL.skip (d := 10) (by rfl) (by rfl) (by rfl) (by rfl) ?_
    refine WL.skip (d := 10) (by rfl) (by rfl) (by rfl) (by rfl) ?_
    refine WL.p (by rfl) (Yl.pickF (by rfl) (by rfl)) ?_
    refine WL.p (by rfl) (Yl.move (by rfl)) ?_
    refine WL.skip (d := 17) (by rfl) (by rfl) (by rfl) (by rfl) ?_
    refine WL.skip (d := 17) (by rfl) (by rfl) (by rfl) (by rfl) ?_
    refine WL.skip (d := 17) (by rfl) (by rfl) (by rfl) (by rfl) ?_
    refine WL.skip (d := 17) (by rfl) (by rfl) (by rfl) (by rfl) ?_
    refine WL.skip (d := 17) (by rfl) (by rfl) (by rfl) (by rfl) ?_
    refine WL.p (by rfl) (Yl.pickF (by rfl) (by rfl)) ?_
    refine WL.p (by rfl) (Yl.move (by rfl)) ?_
    refine WL.skip (d := 24) (by rfl) (by rfl) (by rfl) (by rfl) ?_
    refine WL.skip (d := 24) (by rfl) (by rfl) (by rfl) (by rfl) ?_
    refine WL.skip (d := 24) (by rfl) (by rfl) (by rfl) (by rfl) ?_
    refine WL.skip (d := 24) (by rfl) (by rfl) (by rfl) (by rfl) ?_
    refine WL.skip (d := 24) (by rfl) (by rfl) (by rfl) (by rfl) ?_
    refine WL.p (by rfl) (Yl.pickF (by rfl) (by rfl)) ?_
    refine WL.p (by rfl) (Yl.move (by rfl)) ?_
    refine WL.skip (d := 31) (by rfl) (by rfl) (by rfl) (by rfl) ?_
    refine WL.skip (d := 31) (by rfl) (by rfl) (by rfl) (by rfl) ?_
    refine WL.skip (d := 31) (by rfl) (by rfl) (by rfl) (by rfl) ?_
    refine WL.skip (d := 31) (by rfl) (by rfl) (by rfl) (by rfl) ?_
    refine WL.skip (d := 31) (by rfl) (by rfl) (by rfl) (by rfl) ?_
    refine WL.p (by rfl) (Yl.pickF (by rfl) (by rfl)) ?_
    refine WL.p (by rfl) (Yl.assign (by rfl)) ?_
    refine WL.next ?_
    refine WC.ret ?_
    refine fin1' rfl (by rfl) ?_
    refine RetP.mk hs ?_
    simp_all [TPolicy.ext_iff]

theorem c_impl_EqualPolicies (a : PPolicy) (b : PPolicy) (w : World) (h_a : Ph.ok w a) (h_b : Ph.ok w b)  : Calls Try.prog 36 [.agg #[Bo a.set, Sl.v a.scripts, Sl.v a.styles, Sl.v a.images, S a.nonce], .agg #[Bo b.set, Sl.v b.scripts, Sl.v b.styles, Sl.v b.images, S b.nonce]].toArray w (RetP w (Bo (decide (a.lg = b.lg)))) := by
  refine enterN 38 Try.func36 rfl rfl rfl ?_
  have hs := Sat.start w
  refine WC.seq ?_
  refine WL.r (by rfl) (Yr.box hs (by rfl) (by rfl)) ?_
  clear hs; rintro _ w ⟨b1, rfl, hb, hs⟩; clear hb
  refine WL.r (by rfl) (Yr.box hs (by rfl) (by rfl)) ?_
  clear hs; rintro _ w ⟨b2, rfl, hb, hs⟩; clear hb
  refine WL.p (by rfl) (Yl.assign (by rfl)) ?_
  refine WL.next ?_
  refine WC.seq ?_
  refine WL.p (by rfl) (Yl.fieldAddr fa47_0 (by rfl)) ?_
  refine WL.p (by rfl) (Yl.loadB sca4 (by rfl) hs (by repeat (first | exact List.mem_cons_self | apply List.mem_cons_of_mem)) (by rfl)) ?_
  refine WL.p (by rfl) (Yl.fieldAddr fa47_0 (by rfl)) ?_
  refine WL.p (by rfl) (Yl.loadB sca4 (by rfl) hs (by repeat (first | exact List.mem_cons_self | apply List.mem_cons_of_mem)) (by rfl)) ?_
  refine WL.p (by rfl) (Yl.eqb bool4 (by rfl) (by rfl)) ?_
  refine WL.p (by rfl) (Yl.move (by rfl)) ?_
  refine WL.split (d := 10) (by rfl) (fun h1 => ?_) (fun h1 => ?_)
  ·
    replace h1 := beq_true h1
    refine WL.run (d := 10) (by rfl) (by rfl) ?_
    refine WL.p (by rfl) (Yl.fieldAddr fa47_1 (by rfl)) ?_
    refine WL.run (d := 10) (by rfl) (by rfl) ?_
    refine WL.p (by rfl) (Yl.loadB sca42 (by rfl) hs (by repeat (first | exact List.mem_cons_self | apply List.mem_cons_of_mem)) (by rfl)) ?_
    refine WL.run (d := 10) (by rfl) (by rfl) ?_
    refine WL.p (by rfl) (Yl.fieldAddr fa47_1 (by rfl)) ?_
    refine WL.run (d := 10) (by rfl) (by rfl) ?_
    refine WL.p (by rfl) (Yl.loadB sca42 (by rfl) hs (by repeat (first | exact List.mem_cons_self | apply List.mem_cons_of_mem)) (by rfl)) ?_
    refine WL.run (d := 10) (by rfl) (by rfl) ?_
    refine WL.callp hs (by rfl) (Yc.func (by rfl) fn72) (c_slices_Equal___string_string_ _ _ _ (Ph.old h_a.scripts hs) (Ph.old h_b.scripts hs)) ?_
    clear hs; intro w hs
    refine WL.p (by rfl) (Yl.pickT (by rfl) (by rfl)) ?_
    refine WL.p (by rfl) (Yl.move (by rfl)) ?_
    refine WL.split (d := 17) (by rfl) (fun h2 => ?_) (fun h2 => ?_)
    ·
      replace h2 := of_decide_eq_true h2
      refine WL.run (d := 17) (by rfl) (by rfl) ?_
      refine WL.p (by rfl) (Yl.fieldAddr fa47_2 (by rfl)) ?_
      refine WL.run (d := 17) (by rfl) (by rfl) ?_
      refine WL.p (by rfl) (Yl.loadB sca42 (by rfl) hs (by repeat (first | exact List.mem_cons_self | apply List.mem_cons_of_mem)) (by rfl)) ?_
      refine WL.run (d := 17) (by rfl) (by rfl) ?_
      refine WL.p (by rfl) (Yl.fieldAddr fa47_2 (by rfl)) ?_
      refine WL.run (d := 17) (by rfl) (by rfl) ?_
      refine WL.p (by rfl) (Yl.loadB sca42 (by rfl) hs (by repeat (first | exact List.mem_cons_self | apply List.mem_cons_of_mem)) (by rfl)) ?_
      refine WL.run (d := 17) (by rfl) (by rfl) ?_
      refine WL.callp hs (by rfl) (Yc.func (by rfl) fn72) (c_slices_Equal___string_string_ _ _ _ (Ph.old h_a.styles hs) (Ph.old h_b.styles hs)) ?_
      clear hs; intro w hs
      refine WL.p (by rfl) (Yl.pickT (by rfl) (by rfl)) ?_
      refine WL.p (by rfl) (Yl.move (by rfl)) ?_
      refine WL.split (d := 24) (by rfl) (fun h3 => ?_) (fun h3 => ?_)
      ·
        replace h3 := of_decide_eq_true h3
        refine WL.run (d := 24) (by rfl) (by rfl) ?_
        refine WL.p (by rfl) (Yl.fieldAddr fa47_3 (by rfl)) ?_
        refine WL.run (d := 24) (by rfl) (by rfl) ?_
        refine WL.p (by rfl) (Yl.loadB sca42 (by rfl) hs (by repeat (first | exact List.mem_cons_self | apply List.mem_cons_of_mem)) (by rfl)) ?_
        refine WL.run (d := 24) (by rfl) (by rfl) ?_
        refine WL.p (by rfl) (Yl.fieldAddr fa47_3 (by rfl)) ?_
        refine WL.run (d := 24) (by rfl) (by rfl) ?_
        refine WL.p (by rfl) (Yl.loadB sca42 (by rfl) hs (by repeat (first | exact List.mem_cons_self | apply List.mem_cons_of_mem)) (by rfl)) ?_
        refine WL.run (d := 24) (by rfl) (by rfl) ?_
        refine WL.callp hs (by rfl) (Yc.func (by rfl) fn72) (c_slices_Equal___string_string_ _ _ _ (Ph.old h_a.images hs) (Ph.old h_b.images hs)) ?_
        clear hs; intro w hs
        refine WL.p (by rfl) (Yl.pickT (by rfl) (by rfl)) ?_
        refine WL.p (by rfl) (Yl.move (by rfl)) ?_
        refine WL.split (d := 31) (by rfl) (fun h4 => ?_) (fun h4 => ?_)
        ·
          replace h4 := of_decide_eq_true h4
          refine WL.run (d := 31) (by rfl) (by rfl) ?_
          refine WL.p (by rfl) (Yl.fieldAddr fa47_4 (by rfl)) ?_
          refine WL.run (d := 31) (by rfl) (by rfl) ?_
          refine WL.p (by rfl) (Yl.loadB sca9 (by rfl) hs (by repeat (first | exact List.mem_cons_self | apply List.mem_cons_of_mem)) (by rfl)) ?_
          refine WL.run (d := 31) (by rfl) (by rfl) ?_
          refine WL.p (by rfl) (Yl.fieldAddr fa47_4 (by rfl)) ?_
          refine WL.run (d := 31) (by rfl) (by rfl) ?_
          refine WL.p (by rfl) (Yl.loadB sca9 (by rfl) hs (by repeat (first | exact List.mem_cons_self | apply List.mem_cons_of_mem)) (by rfl)) ?_
          refine WL.run (d := 31) (by rfl) (by rfl) ?_
          refine WL.p (by rfl) (Yl.eqs (by rfl) (by rfl)) ?_
          refine WL.p (by rfl) (Yl.pickT (by rfl) (by rfl)) ?_
          refine WL.p (by rfl) (Yl.assign (by rfl)) ?_
          refine WL.next ?_
          refine WC.ret ?_
          refine fin1' rfl (by rfl) ?_
          refine RetP.mk hs ?_
          simp_all [TPolicy.ext_iff]
        ·
          replace h4 := of_decide_eq_false h4
          refine WL.skip (d := 31) (by rfl) (by rfl) (by rfl) (by rfl) ?_
          refine WL.skip (d := 31) (by rfl) (by rfl) (by rfl) (by rfl) ?_
          refine WL.skip (d := 31) (by rfl) (by rfl) (by rfl) (by rfl) ?_
          refine WL.skip (d := 31) (by rfl) (by rfl) (by rfl) (by rfl) ?_
          refine WL.skip (d := 31) (by rfl) (by rfl) (by rfl) (by rfl) ?_
          refine WL.p (by rfl) (Yl.pickF (by rfl) (by rfl)) ?_
          refine WL.p (by rfl) (Yl.assign (by rfl)) ?_
          refine WL.next ?_
          refine WC.ret ?_
          refine fin1' rfl (by rfl) ?_
          refine RetP.mk hs ?_
          simp_all [TPolicy.ext_iff]
      ·
        replace h3 := of_decide_eq_false h3
        refine WL.skip (d := 24) (by rfl) (by rfl) (by rfl) (by rfl) ?_
        refine WL.skip (d := 24) (by rfl) (by rfl) (by rfl) (by rfl) ?_
        refine WL.skip (d := 24) (by rfl) (by rfl) (by rfl) (by rfl) ?_
        refine WL.skip (d := 24) (by rfl) (by rfl) (by rfl) (by rfl) ?_
        refine WL.skip (d := 24) (by rfl) (by rfl) (by rfl) (by rfl) ?_
        refine WL.p (by rfl) (Yl.pickF (by rfl) (by rfl)) ?_
        refine WL.p (by rfl) (Yl.move (by rfl)) ?_
        refine WL.skip (d := 31) (by rfl) (by rfl) (by rfl) (by rfl) ?_
        refine WL.skip (d := 31) (by rfl) (by rfl) (by rfl) (by rfl) ?_
        refine WL.skip (d := 31) (by rfl) (by rfl) (by rfl) (by rfl) ?_
        refine WL.skip (d := 31) (by rfl) (by rfl) (by rfl) (by rfl) ?_
        refine WL.skip (d := 31) (by rfl) (by rfl) (by rfl) (by rfl) ?_
        refine WL.p (by rfl) (Yl.pickF (by rfl) (by rfl)) ?_
        refine WL.p (by rfl) (Yl.assign (by rfl)) ?_
        refine WL.next ?_
        refine WC.ret ?_
        refine fin1' rfl (by rfl) ?_
        refine RetP.mk hs ?_
        simp_all [TPolicy.ext_iff]
    ·
      replace h2 := of_decide_eq_false h2
      refine WL.skip (d := 17) (by rfl) (by rfl) (by rfl) (by rfl) ?_
      refine WL.skip (d := 17) (by rfl) (by rfl) (by rfl) (by rfl) ?_
      refine WL.skip (d := 17) (by rfl) (by rfl) (by rfl) (by rfl) ?_
      refine WL.skip (d := 17) (by rfl) (by rfl) (by rfl) (by rfl) ?_
      refine WL.skip (d := 17) (by rfl) (by rfl) (by rfl) (by rfl) ?_
      refine WL.p (by rfl) (Yl.pickF (by rfl) (by rfl)) ?_
      refine WL.p (by rfl) (Yl.move (by rfl)) ?_
      refine WL.skip (d := 24) (by rfl) (by rfl) (by rfl) (by rfl) ?_
      refine WL.skip (d := 24) (by rfl) (by rfl) (by rfl) (by rfl) ?_
      refine WL.skip (d := 24) (by rfl) (by rfl) (by rfl) (by rfl) ?_
      refine WL.skip (d := 24) (by rfl) (by rfl) (by rfl) (by rfl) ?_
      refine WL.skip (d := 24) (by rfl) (by rfl) (by rfl) (by rfl) ?_
      refine WL.p (by rfl) (Yl.pickF (by rfl) (by rfl)) ?_
      refine WL.p (by rfl) (Yl.move (by rfl)) ?_
      refine WL.skip (d := 31) (by rfl) (by rfl) (by rfl) (by rfl) ?_
      refine WL.skip (d := 31) (by rfl) (by rfl) (by rfl) (by rfl) ?_
      refine WL.skip (d := 31) (by rfl) (by rfl) (by rfl) (by rfl) ?_
      refine WL.skip (d := 31) (by rfl) (by rfl) (by rfl) (by rfl) ?_
      refine WL.skip (d := 31) (by rfl) (by rfl) (by rfl) (by rfl) ?_
      refine WL.p (by rfl) (Yl.pickF (by rfl) (by rfl)) ?_
      refine WL.p (by rfl) (Yl.assign (by rfl)) ?_
      refine WL.next ?_
      refine WC.ret ?_
      refine fin1' rfl (by rfl) ?_
      refine RetP.mk hs ?_
      simp_all [TPolicy.ext_iff]
  ·
    replace h1 := beq_false h1
    refine WL.skip (d := 10) (by rfl) (by rfl) (by rfl) (by rfl) ?_
    refine WL.skip (d := 10) (by rfl) (by rfl) (by rfl) (by rfl) ?_
    refine WL.skip (d := 10) (by rfl) (by rfl) (by rfl) (by rfl) ?_
    refine WL.skip (d := 10) (by rfl) (by rfl) (by rfl) (by rfl) ?_
    refine WL.skip (d := 10) (by rfl) (by rfl) (by rfl) (by rfl) ?_
    refine WL.p (by rfl) (Yl.pickF (by rfl) (by rfl)) ?_
    refine WL.p (by rfl) (Yl.move (by rfl)) ?_
    refine WL.skip (d := 17) (by rfl) (by rfl) (by rfl) (by rfl) ?_
    refine WL.skip (d := 17) (by rfl) (by rfl) (by rfl) (by rfl) ?_
    refine WL.skip (d := 17) (by rfl) (by rfl) (by rfl) (by rfl) ?_
    refine WL.skip (d := 17) (by rfl) (by rfl) (by rfl) (by rfl) ?_
    refine WL.skip (d := 17) (by rfl) (by rfl) (by rfl) (by rfl) ?_
    refine WL.p (by rfl) (Yl.pickF (by rfl) (by rfl)) ?_
    refine WL.p (by rfl) (Yl.move (by rfl)) ?_
    refine WL.skip (d := 24) (by rfl) (by rfl) (by rfl) (by rfl) ?_
    refine WL.skip (d := 24) (by rfl) (by rfl) (by rfl) (by rfl) ?_
    refine WL.skip (d := 24) (by rfl) (by rfl) (by rfl) (by rfl) ?_
    refine WL.skip (d := 24) (by rfl) (by rfl) (by rfl) (by rfl) ?_
    refine WL.skip (d := 24) (by rfl) (by rfl) (by rfl) (by rfl) ?_
    refine WL.p (by rfl) (Yl.pickF (by rfl) (by rfl)) ?_
    refine WL.p (by rfl) (Yl.move (by rfl)) ?_
    refine WL.skip (d := 31) (by rfl) (by rfl) (by rfl) (by rfl) ?_
    refine WL.skip (d := 31) (by rfl) (by rfl) (by rfl) (by rfl) ?_
    refine WL.skip (d := 31) (by rfl) (by rfl) (by rfl) (by rfl) ?_
    refine WL.skip (d := 31) (by rfl) (by rfl) (by rfl) (by rfl) ?_
    refine WL.skip (d := 31) (by rfl) (by rfl) (by rfl) (by rfl) ?_
    refine WL.p (by rfl) (Yl.pickF (by rfl) (by rfl)) ?_
    refine WL.p (by rfl) (Yl.assign (by rfl)) ?_
    refine WL.next ?_
    refine WC.ret ?_
    refine fin1' rfl (by rfl) ?_
    refine RetP.mk hs ?_
    simp_all [TPolicy.ext_iff]

theorem c_spec_l9Has (l : (Sl Str)) (s : Str) (w : World) (h_l : Ph.ok w l)  : Calls Try.prog 73 [Sl.v l, S s].toArray w (RetP w (Bo (decide (s ∈ l.l)))) := by
  have hw := h_l.lt
  refine enterN 18 Try.func73 rfl rfl rfl ?_
  have hs := Sat.start w
  refine WC.seq ?_
  refine WL.p (by rfl) (Yl.assign (by rfl)) ?_
  refine WL.next ?_
  refine WC.seq' ?_
  refine WC.seq ?_
  refine WL.p (by rfl) (Yl.assign (by rfl)) ?_
  refine WL.next ?_
  refine WC.block ?_
  refine WC.loopC (ι := Nat) (fun k => l.l.length - k) (fun k => [(5, I (k : Int))]) (fun _ => []) (fun k => decide (s ∈ l.l) = decide (s ∈ l.l.drop k)) [(0, _), (1, _)] 0 (hs) ⟨by rfl, by rfl, trivial⟩ ⟨by rfl, trivial⟩ ?_ ?_
  ·
    simp
  clear hs; rintro k w hJ hs
  simp only [List.nil_append] at hs
  refine WC.seq' ?_
  refine WC.seq ?_
  refine WL.p (by rfl) (Yl.move (by rfl)) ?_
  refine WL.p (by rfl) (Yl.move (by rfl)) ?_
  refine WL.p (by rfl) (Yl.len_sl slu42 (by rfl)) ?_
  refine WL.p (by rfl) (Yl.lss (by rfl) (by rfl)) ?_
  refine WL.next ?_
  refine WC.condS (by rfl) (fun h1 => ?_) (fun h1 => ?_)
  ·
    replace h1 := of_decide_eq_true h1
    obtain ⟨d, hd⟩ := exists_get (l := l.l) (k := k) (by omega)
    rw [drop_cons hd] at hJ
    refine WC.skipn ?_
    refine WC.seq' ?_
    refine WC.block ?_
    refine WC.seq ?_
    refine WL.p (by rfl) (Yl.move (by rfl)) ?_
    refine WL.p (by rfl) (Yl.move (by rfl)) ?_
    refine WL.p (by rfl) (Yl.indexAddr slt42 (by rfl) (by rfl) (Ph.old h_l hs) (by rfl) (hd)) ?_
    refine WL.p (by rfl) (Yl.loadC0 sca9 (by rfl) (Sl.Ok.at_ (Ph.old h_l hs) (by assumption)).2 (by rfl)) ?_
    refine WL.p (by rfl) (Yl.move (by rfl)) ?_
    refine WL.p (by rfl) (Yl.eqs (by rfl) (by rfl)) ?_
    refine WL.next ?_
    refine WC.condS (by rfl) (fun h2 => ?_) (fun h2 => ?_)
    ·
      replace h2 := of_decide_eq_true h2
      refine WC.seq ?_
      refine WL.p (by rfl) (Yl.assign (by rfl)) ?_
      refine WL.next ?_
      refine WC.ret ?_
      refine At.blockret ?_
      refine At.thenret ?_
      refine At.thenret ?_
      refine At.blockret ?_
      refine At.thenret ?_
      refine fin1' rfl (by rfl) ?_
      refine RetP.mk hs ?_
      simp_all
    ·
      replace h2 := of_decide_eq_false h2
      refine WC.skip ?_
      refine At.blocknormal ?_
      refine At.then_ ?_
      refine WC.region ?_
      refine WL.p (by rfl) (Yl.move (by rfl)) ?_
      refine WL.p (by rfl) (Yl.add (by rfl) (by rfl) (by omega)) ?_
      refine WL.p (by rfl) (Yl.assign (by rfl)) ?_
      refine WL.nil ?_
      refine At.roundC (k + 1) (hs.only (by repeat (first | exact Sel.nil | (apply Sel.cons; (repeat (first | exact Ext.here | apply Ext.there)))))) ⟨by rfl, by rfl, trivial⟩ ⟨by rfl, trivial⟩ ?_ ?_
      ·
        omega
      ·
        rw [hJ]; have := fun h => h2 (Eq.symm h); simp_all
  ·
    replace h1 := of_decide_eq_false h1
    rw [drop_out (l := l.l) (by omega)] at hJ
    refine WC.exit ?_
    refine At.thenexit ?_
    refine At.thenexit ?_
    refine At.blockexit ?_
    refine At.then_ ?_
    refine WC.seq ?_
    refine WL.p (by rfl) (Yl.assign (by rfl)) ?_
    refine WL.next ?_
    refine WC.ret ?_
    refine fin1' rfl (by rfl) ?_
    refine RetP.mk hs ?_
    simp_all

theorem c_slices_Index___string_string_ (s : (Sl Str)) (v : Str) (w : World) (h_s : Ph.ok w s)  : Calls Try.prog 87 [Sl.v s, S v].toArray w (RetP w (I (idxF (fun x => decide (v = x)) s.l 0))) := by
  have hw := h_s.lt
  refine enterN 19 Try.func87 rfl rfl rfl ?_
  have hs := Sat.start w
  refine WC.seq ?_
  refine WL.p (by rfl) (Yl.assign (by rfl)) ?_
  refine WL.next ?_
  refine WC.seq' ?_
  refine WC.seq ?_
  refine WL.p (by rfl) (Yl.move (by rfl)) ?_
  refine WL.p (by rfl) (Yl.len_sl slu42 (by rfl)) ?_
  refine WL.p (by rfl) (Yl.move (by rfl)) ?_
  refine WL.next ?_
  refine WC.block ?_
  refine WC.loopC (ι := Nat) (fun k => s.l.length - k) (fun k => [(8, I (k : Int))]) (fun _ => []) (fun k => idxF (fun x => decide (v = x)) s.l 0 = idxF (fun x => decide (v = x)) (s.l.drop k) k) [(0, _), (1, _), (6, _), (7, _)] 0 (hs) ⟨by rfl, by rfl, by rfl, by rfl, trivial⟩ ⟨by rfl, trivial⟩ ?_ ?_
  ·
    simp
  clear hs; rintro k w hJ hs
  simp only [List.nil_append] at hs
  refine WC.seq ?_
  refine WL.p (by rfl) (Yl.lss (by rfl) (by rfl)) ?_
  refine WL.next ?_
  refine WC.seq' ?_
  refine WC.condS (by rfl) (fun h1 => ?_) (fun h1 => ?_)
  ·
    replace h1 := of_decide_eq_true h1
    obtain ⟨d, hd⟩ := exists_get (l := s.l) (k := k) (by omega)
    rw [drop_cons hd] at hJ
    refine WC.skipn ?_
    refine WC.seq' ?_
    refine WC.block ?_
    refine WC.seq ?_
    refine WL.p (by rfl) (Yl.move (by rfl)) ?_
    refine WL.p (by rfl) (Yl.assign (by rfl)) ?_
    refine WL.next ?_
    refine WC.seq ?_
    refine WL.p (by rfl) (Yl.move (by rfl)) ?_
    refine WL.p (by rfl) (Yl.move (by rfl)) ?_
    refine WL.p (by rfl) (Yl.move (by rfl)) ?_
    refine WL.p (by rfl) (Yl.indexAddr slt42 (by rfl) (by rfl) (Ph.old h_s hs) (by rfl) (hd)) ?_
    refine WL.p (by rfl) (Yl.loadC0 sca9 (by rfl) (Sl.Ok.at_ (Ph.old h_s hs) (by assumption)).2 (by rfl)) ?_
    refine WL.p (by rfl) (Yl.eqs (by rfl) (by rfl)) ?_
    refine WL.next ?_
    refine WC.condS (by rfl) (fun h2 => ?_) (fun h2 => ?_)
    ·
      replace h2 := of_decide_eq_true h2
      refine WC.seq ?_
      refine WL.p (by rfl) (Yl.move (by rfl)) ?_
      refine WL.p (by rfl) (Yl.assign (by rfl)) ?_
      refine WL.next ?_
      refine WC.ret ?_
      refine At.blockret ?_
      refine At.thenret ?_
      refine At.thenret ?_
      refine At.blockret ?_
      refine At.thenret ?_
      refine fin1' rfl (by rfl) ?_
      refine RetP.mk hs ?_
      rw [hJ]; simp_all [idxF]
    ·
      replace h2 := of_decide_eq_false h2
      refine WC.skip ?_
      refine At.blocknormal ?_
      refine At.then_ ?_
      refine WC.region ?_
      refine WL.p (by rfl) (Yl.add (by rfl) (by rfl) (by omega)) ?_
      refine WL.p (by rfl) (Yl.move (by rfl)) ?_
      refine WL.nil ?_
      refine At.roundC (k + 1) (hs.only (by repeat (first | exact Sel.nil | (apply Sel.cons; (repeat (first | exact Ext.here | apply Ext.there)))))) ⟨by rfl, by rfl, by rfl, by rfl, trivial⟩ ⟨by rfl, trivial⟩ ?_ ?_
      ·
        omega
      ·
        rw [hJ]; simp_all [idxF]
  ·
    replace h1 := of_decide_eq_false h1
    rw [drop_out (l := s.l) (by omega)] at hJ
    refine WC.exit ?_
    refine At.thenexit ?_
    refine At.thenexit ?_
    refine At.blockexit ?_
    refine At.then_ ?_
    refine WC.seq ?_
    refine WL.p (by rfl) (Yl.assign (by rfl)) ?_
    refine WL.next ?_
    refine WC.ret ?_
    refine fin1' rfl (by rfl) ?_
    refine RetP.mk hs ?_
    rw [hJ]; simp_all [idxF]

theorem c_slices_Contains___string_string_ (s : (Sl Str)) (v : Str) (w : World) (h_s : Ph.ok w s)  : Calls Try.prog 74 [Sl.v s, S v].toArray w (RetP w (Bo (decide (v ∈ s.l)))) := by
  refine enterN 9 Try.func74 rfl rfl rfl ?_
  have hs := Sat.start w
  refine WC.seq ?_
  refine WL.p (by rfl) (Yl.assign (by rfl)) ?_
  refine WL.next ?_
  refine WC.seq ?_
  refine WL.p (by rfl) (Yl.move (by rfl)) ?_
  refine WL.p (by rfl) (Yl.move (by rfl)) ?_
  refine WL.callp hs (by rfl) (Yc.func (by rfl) fn87) (c_slices_Index___string_string_ _ _ _ (Ph.old h_s hs)) ?_
  clear hs; intro w hs
  refine WL.p (by rfl) (Yl.geq (by rfl) (by rfl)) ?_
  refine WL.p (by rfl) (Yl.assign (by rfl)) ?_
  refine WL.next ?_
  refine WC.ret ?_
  refine fin1' rfl (by rfl) ?_
  refine RetP.mk hs ?_
  simp only [ge_iff_le, idxF_any, any_mem]

theorem c_spec_Allows (p : PPolicy) (kind : Int) (host : Str) (w : World) (h_p : Ph.ok w p)  : Calls Try.prog 37 [.agg #[Bo p.set, Sl.v p.scripts, Sl.v p.styles, Sl.v p.images, S p.nonce], I kind, S host].toArray w (RetP w (Bo (p.lg.allows kind host))) := by
  refine enterN 36 Try.func37 rfl rfl rfl ?_
  have hs := Sat.start w
  refine WC.seq ?_
  refine WL.r (by rfl) (Yr.box hs (by rfl) (by rfl)) ?_
  clear hs; rintro _ w ⟨b1, rfl, hb, hs⟩; clear hb
  refine WL.p (by rfl) (Yl.assign (by rfl)) ?_
  refine WL.next ?_
  refine WC.seq' ?_
  refine WC.block ?_
  refine WC.seq ?_
  refine WL.p (by rfl) (Yl.fieldAddr fa47_0 (by rfl)) ?_
  refine WL.p (by rfl) (Yl.loadB sca4 (by rfl) hs (by repeat (first | exact List.mem_cons_self | apply List.mem_cons_of_mem)) (by rfl)) ?_
  refine WL.p (by rfl) (Yl.not (by rfl)) ?_
  refine WL.p (by rfl) (Yl.assign (by rfl)) ?_
  refine WL.next ?_
  refine WC.condS (by rfl) (fun h1 => ?_) (fun h1 => ?_)
  ·
    replace h1 := not_eq_true h1
    refine WC.seq ?_
    refine WL.p (by rfl) (Yl.assign (by rfl)) ?_
    refine WL.next ?_
    refine WC.ret ?_
    refine At.blockret ?_
    refine At.thenret ?_
    refine fin1' rfl (by rfl) ?_
    refine RetP.mk hs ?_
    simp_all [TPolicy.allows]
  ·
    replace h1 := not_eq_false h1
    refine WC.seq ?_
    refine WL.p (by rfl) (Yl.move (by rfl)) ?_
    refine WL.p (by rfl) (Yl.eqi (by rfl) (by rfl)) ?_
    refine WL.p (by rfl) (Yl.move (by rfl)) ?_
    refine WL.split (d := 14) (by rfl) (fun h2 => ?_) (fun h2 => ?_)
    ·
      replace h2 := of_decide_eq_true h2
      refine WL.skip (d := 14) (by rfl) (by rfl) (by rfl) (by rfl) ?_
      refine WL.skip (d := 14) (by rfl) (by rfl) (by rfl) (by rfl) ?_
      refine WL.p (by rfl) (Yl.pickT (by rfl) (by rfl)) ?_
      refine WL.p (by rfl) (Yl.assign (by rfl)) ?_
      refine WL.next ?_
      refine WC.condT (by rfl) ?_
      refine WC.seq ?_
      refine WL.p (by rfl) (Yl.fieldAddr fa47_1 (by rfl)) ?_
      refine WL.p (by rfl) (Yl.loadB sca42 (by rfl) hs (by repeat (first | exact List.mem_cons_self | apply List.mem_cons_of_mem)) (by rfl)) ?_
      refine WL.p (by rfl) (Yl.move (by rfl)) ?_
      refine WL.callp hs (by rfl) (Yc.func (by rfl) fn73) (c_spec_l9Has _ _ _ (Ph.old h_p.scripts hs)) ?_
      clear hs; intro w hs
      refine WL.p (by rfl) (Yl.assign (by rfl)) ?_
      refine WL.next ?_
      refine WC.ret ?_
      refine At.blockret ?_
      refine At.thenret ?_
      refine fin1' rfl (by rfl) ?_
      refine RetP.mk hs ?_
      simp_all [TPolicy.allows]
    ·
      replace h2 := of_decide_eq_false h2
      refine WL.run (d := 14) (by rfl) (by rfl) ?_
      refine WL.p (by rfl) (Yl.move (by rfl)) ?_
      refine WL.run (d := 14) (by rfl) (by rfl) ?_
      refine WL.p (by rfl) (Yl.eqi (by rfl) (by rfl)) ?_
      refine WL.p (by rfl) (Yl.pickF (by rfl) (by rfl)) ?_
      refine WL.p (by rfl) (Yl.assign (by rfl)) ?_
      refine WL.next ?_
      refine WC.condS (by rfl) (fun h3 => ?_) (fun h3 => ?_)
      ·
        replace h3 := of_decide_eq_true h3
        refine WC.seq ?_
        refine WL.p (by rfl) (Yl.fieldAddr fa47_1 (by rfl)) ?_
        refine WL.p (by rfl) (Yl.loadB sca42 (by rfl) hs (by repeat (first | exact List.mem_cons_self | apply List.mem_cons_of_mem)) (by rfl)) ?_
        refine WL.p (by rfl) (Yl.move (by rfl)) ?_
        refine WL.callp hs (by rfl) (Yc.func (by rfl) fn73) (c_spec_l9Has _ _ _ (Ph.old h_p.scripts hs)) ?_
        clear hs; intro w hs
        refine WL.p (by rfl) (Yl.assign (by rfl)) ?_
        refine WL.next ?_
        refine WC.ret ?_
        refine At.blockret ?_
        refine At.thenret ?_
        refine fin1' rfl (by rfl) ?_
        refine RetP.mk hs ?_
        simp_all [TPolicy.allows]
      ·
        replace h3 := of_decide_eq_false h3
        refine WC.seq ?_
        refine WL.p (by rfl) (Yl.move (by rfl)) ?_
        refine WL.p (by rfl) (Yl.eqi (by rfl) (by rfl)) ?_
        refine WL.p (by rfl) (Yl.assign (by rfl)) ?_
        refine WL.next ?_
        refine WC.condS (by rfl) (fun h4 => ?_) (fun h4 => ?_)
        ·
          replace h4 := of_decide_eq_true h4
          refine WC.seq ?_
          refine WL.p (by rfl) (Yl.fieldAddr fa47_2 (by rfl)) ?_
          refine WL.p (by rfl) (Yl.loadB sca42 (by rfl) hs (by repeat (first | exact List.mem_cons_self | apply List.mem_cons_of_mem)) (by rfl)) ?_
          refine WL.p (by rfl) (Yl.move (by rfl)) ?_
          refine WL.callp hs (by rfl) (Yc.func (by rfl) fn73) (c_spec_l9Has _ _ _ (Ph.old h_p.styles hs)) ?_
          clear hs; intro w hs
          refine WL.p (by rfl) (Yl.assign (by rfl)) ?_
          refine WL.next ?_
          refine WC.ret ?_
          refine At.blockret ?_
          refine At.thenret ?_
          refine fin1' rfl (by rfl) ?_
          refine RetP.mk hs ?_
          simp_all [TPolicy.allows]
        ·
          replace h4 := of_decide_eq_false h4
          refine WC.seq ?_
          refine WL.p (by rfl) (Yl.move (by rfl)) ?_
          refine WL.p (by rfl) (Yl.eqi (by rfl) (by rfl)) ?_
          refine WL.p (by rfl) (Yl.assign (by rfl)) ?_
          refine WL.next ?_
          refine WC.condS (by rfl) (fun h5 => ?_) (fun h5 => ?_)
          ·
            replace h5 := of_decide_eq_true h5
            refine WC.seq ?_
            refine WL.p (by rfl) (Yl.fieldAddr fa47_3 (by rfl)) ?_
            refine WL.p (by rfl) (Yl.loadB sca42 (by rfl) hs (by repeat (first | exact List.mem_cons_self | apply List.mem_cons_of_mem)) (by rfl)) ?_
            refine WL.p (by rfl) (Yl.move (by rfl)) ?_
            refine WL.callp hs (by rfl) (Yc.func (by rfl) fn73) (c_spec_l9Has _ _ _ (Ph.old h_p.images hs)) ?_
            clear hs; intro w hs
            refine WL.p (by rfl) (Yl.assign (by rfl)) ?_
            refine WL.next ?_
            refine WC.ret ?_
            refine At.blockret ?_
            refine At.thenret ?_
            refine fin1' rfl (by rfl) ?_
            refine RetP.mk hs ?_
            simp_all [TPolicy.allows]
          ·
            replace h5 := of_decide_eq_false h5
            refine WC.skip ?_
            refine At.blocknormal ?_
            refine At.then_ ?_
            refine WC.seq ?_
            refine WL.p (by rfl) (Yl.assign (by rfl)) ?_
            refine WL.next ?_
            refine WC.ret ?_
            refine fin1' rfl (by rfl) ?_
            refine RetP.mk hs ?_
            simp_all [TPolicy.allows]

theorem c_impl_Allows (p : PPolicy) (kind : Int) (host : Str) (w : World) (h_p : Ph.ok w p)  : Calls Try.prog 38 [.agg #[Bo p.set, Sl.v p.scripts, Sl.v p.styles, Sl.v p.images, S p.nonce], I kind, S host].toArray w (RetP w (Bo (p.lg.allows kind host))) := by
  refine enterN 30 Try.func38 rfl rfl rfl ?_
  have hs := Sat.start w
  refine WC.seq ?_
  refine WL.r (by rfl) (Yr.box hs (by rfl) (by rfl)) ?_
  clear hs; rintro _ w ⟨b1, rfl, hb, hs⟩; clear hb
  refine WL.p (by rfl) (Yl.assign (by rfl)) ?_
  refine WL.next ?_
  refine WC.seq' ?_
  refine WC.seq ?_
  refine WL.p (by rfl) (Yl.fieldAddr fa47_0 (by rfl)) ?_
  refine WL.p (by rfl) (Yl.loadB sca4 (by rfl) hs (by repeat (first | exact List.mem_cons_self | apply List.mem_cons_of_mem)) (by rfl)) ?_
  refine WL.p (by rfl) (Yl.not (by rfl)) ?_
  refine WL.next ?_
  refine WC.condS (by rfl) (fun h1 => ?_) (fun h1 => ?_)
  ·
    replace h1 := not_eq_true h1
    refine WC.seq ?_
    refine WL.p (by rfl) (Yl.assign (by rfl)) ?_
    refine WL.next ?_
    refine WC.ret ?_
    refine At.thenret ?_
    refine fin1' rfl (by rfl) ?_
    refine RetP.mk hs ?_
    simp_all [TPolicy.allows]
  ·
    replace h1 := not_eq_false h1
    refine WC.skipn ?_
    refine WC.seq' ?_
    refine WC.seq ?_
    refine WL.p (by rfl) (Yl.move (by rfl)) ?_
    refine WL.next ?_
    refine WC.block ?_
    refine WC.seq' ?_
    refine WC.seq ?_
    refine WL.p (by rfl) (Yl.eqi (by rfl) (by rfl)) ?_
    refine WL.p (by rfl) (Yl.assign (by rfl)) ?_
    refine WL.next ?_
    refine WC.condS (by rfl) (fun h2 => ?_) (fun h2 => ?_)
    ·
      replace h2 := of_decide_eq_true h2
      refine WC.skipn ?_
      refine WC.condT (by rfl) ?_
      refine WC.seq ?_
      refine WL.p (by rfl) (Yl.fieldAddr fa47_1 (by rfl)) ?_
      refine WL.p (by rfl) (Yl.loadB sca42 (by rfl) hs (by repeat (first | exact List.mem_cons_self | apply List.mem_cons_of_mem)) (by rfl)) ?_
      refine WL.p (by rfl) (Yl.move (by rfl)) ?_
      refine WL.callp hs (by rfl) (Yc.func (by rfl) fn74) (c_slices_Contains___string_string_ _ _ _ (Ph.old h_p.scripts hs)) ?_
      clear hs; intro w hs
      refine WL.p (by rfl) (Yl.assign (by rfl)) ?_
      refine WL.next ?_
      refine WC.ret ?_
      refine At.blockret ?_
      refine At.thenret ?_
      refine fin1' rfl (by rfl) ?_
      refine RetP.mk hs ?_
      simp_all [TPolicy.allows]
    ·
      replace h2 := of_decide_eq_false h2
      refine WC.region ?_
      refine WL.p (by rfl) (Yl.eqi (by rfl) (by rfl)) ?_
      refine WL.p (by rfl) (Yl.assign (by rfl)) ?_
      refine WL.nil ?_
      refine At.then_ ?_
      refine WC.condS (by rfl) (fun h3 => ?_) (fun h3 => ?_)
      ·
        replace h3 := of_decide_eq_true h3
        refine WC.seq ?_
        refine WL.p (by rfl) (Yl.fieldAddr fa47_1 (by rfl)) ?_
        refine WL.p (by rfl) (Yl.loadB sca42 (by rfl) hs (by repeat (first | exact List.mem_cons_self | apply List.mem_cons_of_mem)) (by rfl)) ?_
        refine WL.p (by rfl) (Yl.move (by rfl)) ?_
        refine WL.callp hs (by rfl) (Yc.func (by rfl) fn74) (c_slices_Contains___string_string_ _ _ _ (Ph.old h_p.scripts hs)) ?_
        clear hs; intro w hs
        refine WL.p (by rfl) (Yl.assign (by rfl)) ?_
        refine WL.next ?_
        refine WC.ret ?_
        refine At.blockret ?_
        refine At.thenret ?_
        refine fin1' rfl (by rfl) ?_
        refine RetP.mk hs ?_
        simp_all [TPolicy.allows]
      ·
        replace h3 := of_decide_eq_false h3
        refine WC.seq ?_
        refine WL.p (by rfl) (Yl.eqi (by rfl) (by rfl)) ?_
        refine WL.p (by rfl) (Yl.assign (by rfl)) ?_
        refine WL.next ?_
        refine WC.condS (by rfl) (fun h4 => ?_) (fun h4 => ?_)
        ·
          replace h4 := of_decide_eq_true h4
          refine WC.seq ?_
          refine WL.p (by rfl) (Yl.fieldAddr fa47_2 (by rfl)) ?_
          refine WL.p (by rfl) (Yl.loadB sca42 (by rfl) hs (by repeat (first | exact List.mem_cons_self | apply List.mem_cons_of_mem)) (by rfl)) ?_
          refine WL.p (by rfl) (Yl.move (by rfl)) ?_
          refine WL.callp hs (by rfl) (Yc.func (by rfl) fn74) (c_slices_Contains___string_string_ _ _ _ (Ph.old h_p.styles hs)) ?_
          clear hs; intro w hs
          refine WL.p (by rfl) (Yl.assign (by rfl)) ?_
          refine WL.next ?_
          refine WC.ret ?_
          refine At.blockret ?_
          refine At.thenret ?_
          refine fin1' rfl (by rfl) ?_
          refine RetP.mk hs ?_
          simp_all [TPolicy.allows]
        ·
          replace h4 := of_decide_eq_false h4
          refine WC.seq ?_
          refine WL.p (by rfl) (Yl.eqi (by rfl) (by rfl)) ?_
          refine WL.p (by rfl) (Yl.assign (by rfl)) ?_
          refine WL.next ?_
          refine WC.condS (by rfl) (fun h5 => ?_) (fun h5 => ?_)
          ·
            replace h5 := of_decide_eq_true h5
            refine WC.seq ?_
            refine WL.p (by rfl) (Yl.fieldAddr fa47_3 (by rfl)) ?_
            refine WL.p (by rfl) (Yl.loadB sca42 (by rfl) hs (by repeat (first | exact List.mem_cons_self | apply List.mem_cons_of_mem)) (by rfl)) ?_
            refine WL.p (by rfl) (Yl.move (by rfl)) ?_
            refine WL.callp hs (by rfl) (Yc.func (by rfl) fn74) (c_slices_Contains___string_string_ _ _ _ (Ph.old h_p.images hs)) ?_
            clear hs; intro w hs
            refine WL.p (by rfl) (Yl.assign (by rfl)) ?_
            refine WL.next ?_
            refine WC.ret ?_
            refine At.blockret ?_
            refine At.thenret ?_
            refine fin1' rfl (by rfl) ?_
            refine RetP.mk hs ?_
            simp_all [TPolicy.allows]
          ·
            replace h5 := of_decide_eq_false h5
            refine WC.skip ?_
            refine At.blocknormal ?_
            refine At.then_ ?_
            refine WC.seq ?_
            refine WL.p (by rfl) (Yl.assign (by rfl)) ?_
            refine WL.next ?_
            refine WC.ret ?_
            refine fin1' rfl (by rfl) ?_
            refine RetP.mk hs ?_
            simp_all [TPolicy.allows]

theorem c_slices_IndexFunc___string_string_ (s : (Sl Str)) (f : FuncId) (us_f : List Value) (p_f : Str → Bool) (w : World) (h_s : Ph.ok w s)  (hfn_f : FN Try.prog f) (hf_f : ∀ x ∈ s.l, ∀ w', Below w.heap.size w w' → Calls Try.prog f (([S x] : List Value) ++ us_f).toArray w' (RetP w' (Bo (p_f x)))) : Calls Try.prog 93 [Sl.v s, .func (.func f) #[] us_f.toArray].toArray w (RetP w (I (idxF (p_f) s.l 0))) := by
  have hw := h_s.lt
  refine enterN 19 Try.func93 rfl rfl rfl ?_
  have hs := Sat.start w
  refine WC.seq ?_
  refine WL.p (by rfl) (Yl.assign (by rfl)) ?_
  refine WL.next ?_
  refine WC.seq' ?_
  refine WC.seq ?_
  refine WL.p (by rfl) (Yl.move (by rfl)) ?_
  refine WL.p (by rfl) (Yl.len_sl slu42 (by rfl)) ?_
  refine WL.p (by rfl) (Yl.move (by rfl)) ?_
  refine WL.next ?_
  refine WC.block ?_
  refine WC.loopC (ι := Nat) (fun k => s.l.length - k) (fun k => [(8, I (k : Int))]) (fun _ => []) (fun k => idxF (p_f) s.l 0 = idxF (p_f) (s.l.drop k) k) [(0, _), (1, _), (6, _), (7, _)] 0 (hs) ⟨by rfl, by rfl, by rfl, by rfl, trivial⟩ ⟨by rfl, trivial⟩ ?_ ?_
  ·
    simp
  clear hs; rintro k w hJ hs
  simp only [List.nil_append] at hs
  refine WC.seq ?_
  refine WL.p (by rfl) (Yl.lss (by rfl) (by rfl)) ?_
  refine WL.next ?_
  refine WC.seq' ?_
  refine WC.condS (by rfl) (fun h1 => ?_) (fun h1 => ?_)
  ·
    replace h1 := of_decide_eq_true h1
    obtain ⟨d, hd⟩ := exists_get (l := s.l) (k := k) (by omega)
    rw [drop_cons hd] at hJ
    refine WC.skipn ?_
    refine WC.seq' ?_
    refine WC.block ?_
    refine WC.seq ?_
    refine WL.p (by rfl) (Yl.move (by rfl)) ?_
    refine WL.p (by rfl) (Yl.assign (by rfl)) ?_
    refine WL.next ?_
    refine WC.seq ?_
    refine WL.p (by rfl) (Yl.move (by rfl)) ?_
    refine WL.p (by rfl) (Yl.move (by rfl)) ?_
    refine WL.p (by rfl) (Yl.move (by rfl)) ?_
    refine WL.p (by rfl) (Yl.indexAddr slt42 (by rfl) (by rfl) (Ph.old h_s hs) (by rfl) (hd)) ?_
    refine WL.p (by rfl) (Yl.loadC0 sca9 (by rfl) (Sl.Ok.at_ (Ph.old h_s hs) (by assumption)).2 (by rfl)) ?_
    refine WL.callp hs (by rfl) (Yc.value (by rfl) (by rfl) hfn_f (by rfl)) (hf_f _ (List.mem_of_getElem? (by assumption)) _ hs.below) ?_
    clear hs; intro w hs
    refine WL.next ?_
    refine WC.condS (by rfl) (fun h2 => ?_) (fun h2 => ?_)
    ·
      refine WC.seq ?_
      refine WL.p (by rfl) (Yl.move (by rfl)) ?_
      refine WL.p (by rfl) (Yl.assign (by rfl)) ?_
      refine WL.next ?_
      refine WC.ret ?_
      refine At.blockret ?_
      refine At.thenret ?_
      refine At.thenret ?_
      refine At.blockret ?_
      refine At.thenret ?_
      refine fin1' rfl (by rfl) ?_
      refine RetP.mk hs ?_
      rw [hJ]; simp_all [idxF]
    ·
      refine WC.skip ?_
      refine At.blocknormal ?_
      refine At.then_ ?_
      refine WC.region ?_
      refine WL.p (by rfl) (Yl.add (by rfl) (by rfl) (by omega)) ?_
      refine WL.p (by rfl) (Yl.move (by rfl)) ?_
      refine WL.nil ?_
      refine At.roundC (k + 1) (hs.only (by repeat (first | exact Sel.nil | (apply Sel.cons; (repeat (first | exact Ext.here | apply Ext.there)))))) ⟨by rfl, by rfl, by rfl, by rfl, trivial⟩ ⟨by rfl, trivial⟩ ?_ ?_
      ·
        omega
      ·
        rw [hJ]; simp_all [idxF]
  ·
    replace h1 := of_decide_eq_false h1
    rw [drop_out (l := s.l) (by omega)] at hJ
    refine WC.exit ?_
    refine At.thenexit ?_
    refine At.thenexit ?_
    refine At.blockexit ?_
    refine At.then_ ?_
    refine WC.seq ?_
    refine WL.p (by rfl) (Yl.assign (by rfl)) ?_
    refine WL.next ?_
    refine WC.ret ?_
    refine fin1' rfl (by rfl) ?_
    refine RetP.mk hs ?_
    rw [hJ]; simp_all [idxF]

theorem c_slices_ContainsFunc___string_string_ (s : (Sl Str)) (f : FuncId) (us_f : List Value) (p_f : Str → Bool) (w : World) (h_s : Ph.ok w s)  (hfn_f : FN Try.prog f) (hf_f : ∀ x ∈ s.l, ∀ w', Below w.heap.size w w' → Calls Try.prog f (([S x] : List Value) ++ us_f).toArray w' (RetP w' (Bo (p_f x)))) : Calls Try.prog 88 [Sl.v s, .func (.func f) #[] us_f.toArray].toArray w (RetP w (Bo (s.l.any p_f))) := by
  refine enterN 9 Try.func88 rfl rfl rfl ?_
  have hs := Sat.start w
  refine WC.seq ?_
  refine WL.p (by rfl) (Yl.assign (by rfl)) ?_
  refine WL.next ?_
  refine WC.seq ?_
  refine WL.p (by rfl) (Yl.move (by rfl)) ?_
  refine WL.p (by rfl) (Yl.move (by rfl)) ?_
  refine WL.callp hs (by rfl) (Yc.func (by rfl) fn93) (c_slices_IndexFunc___string_string_ _ _ _ p_f _ (Ph.old h_s hs) hfn_f (fun x hx w1 hb1 => hf_f x hx w1 (hs.ext hb1).below)) ?_
  clear hs; intro w hs
  refine WL.p (by rfl) (Yl.geq (by rfl) (by rfl)) ?_
  refine WL.p (by rfl) (Yl.assign (by rfl)) ?_
  refine WL.next ?_
  refine WC.ret ?_
  refine fin1' rfl (by rfl) ?_
  refine RetP.mk hs ?_
  simp only [ge_iff_le, idxF_any]

theorem c_impl_areHosts_1 (s : Str) (w : World) (h_s : Ph.ok w s)  : Calls Try.prog 89 [S s].toArray w (RetP w (Bo (!isName s))) := by
  refine enterN 6 Try.func89 rfl rfl rfl ?_
  have hs := Sat.start w
  refine WC.seq ?_
  refine WL.p (by rfl) (Yl.assign (by rfl)) ?_
  refine WL.next ?_
  refine WC.seq ?_
  refine WL.p (by rfl) (Yl.move (by rfl)) ?_
  refine WL.callp hs (by rfl) (Yc.func (by rfl) fn69) (c_impl_IsName _ _ (Ph.old h_s hs)) ?_
  clear hs; intro w hs
  refine WL.p (by rfl) (Yl.not (by rfl)) ?_
  refine WL.p (by rfl) (Yl.assign (by rfl)) ?_
  refine WL.next ?_
  refine WC.ret ?_
  refine fin1' rfl (by rfl) ?_
  refine RetP.mk hs ?_
  simp_all

theorem c_spec_l9Names (l : (Sl Str)) (w : World) (h_l : Ph.ok w l)  : Calls Try.prog 75 [Sl.v l].toArray w (RetP w (Bo (hosts l.l))) := by
  have hw := h_l.lt
  refine enterN 19 Try.func75 rfl rfl rfl ?_
  have hs := Sat.start w
  refine WC.seq ?_
  refine WL.p (by rfl) (Yl.assign (by rfl)) ?_
  refine WL.next ?_
  refine WC.seq' ?_
  refine WC.seq ?_
  refine WL.p (by rfl) (Yl.assign (by rfl)) ?_
  refine WL.next ?_
  refine WC.block ?_
  refine WC.loopC (ι := Nat) (fun k => l.l.length - k) (fun k => [(3, I (k : Int))]) (fun _ => []) (fun k => l.l.all isName = (l.l.drop k).all isName) [(0, _)] 0 (hs) ⟨by rfl, trivial⟩ ⟨by rfl, trivial⟩ ?_ ?_
  ·
    simp
  clear hs; rintro k w hJ hs
  simp only [List.nil_append] at hs
  refine WC.seq' ?_
  refine WC.seq ?_
  refine WL.p (by rfl) (Yl.move (by rfl)) ?_
  refine WL.p (by rfl) (Yl.move (by rfl)) ?_
  refine WL.p (by rfl) (Yl.len_sl slu42 (by rfl)) ?_
  refine WL.p (by rfl) (Yl.lss (by rfl) (by rfl)) ?_
  refine WL.next ?_
  refine WC.condS (by rfl) (fun h1 => ?_) (fun h1 => ?_)
  ·
    replace h1 := of_decide_eq_true h1
    obtain ⟨d, hd⟩ := exists_get (l := l.l) (k := k) (by omega)
    rw [drop_cons hd] at hJ
    refine WC.skipn ?_
    refine WC.seq' ?_
    refine WC.block ?_
    refine WC.seq ?_
    refine WL.p (by rfl) (Yl.move (by rfl)) ?_
    refine WL.p (by rfl) (Yl.move (by rfl)) ?_
    refine WL.p (by rfl) (Yl.indexAddr slt42 (by rfl) (by rfl) (Ph.old h_l hs) (by rfl) (hd)) ?_
    refine WL.p (by rfl) (Yl.loadC0 sca9 (by rfl) (Sl.Ok.at_ (Ph.old h_l hs) (by assumption)).2 (by rfl)) ?_
    refine WL.callp hs (by rfl) (Yc.func (by rfl) fn65) (c_spec_IsName _ _ (Ph.old (Sl.Ok.elem h_l hd) hs)) ?_
    clear hs; intro w hs
    refine WL.p (by rfl) (Yl.not (by rfl)) ?_
    refine WL.next ?_
    refine WC.condS (by rfl) (fun h2 => ?_) (fun h2 => ?_)
    ·
      replace h2 := not_eq_true h2
      refine WC.seq ?_
      refine WL.p (by rfl) (Yl.assign (by rfl)) ?_
      refine WL.next ?_
      refine WC.ret ?_
      refine At.blockret ?_
      refine At.thenret ?_
      refine At.thenret ?_
      refine At.blockret ?_
      refine At.thenret ?_
      refine fin1' rfl (by rfl) ?_
      refine RetP.mk hs ?_
      have e : l.l.all isName = false := by rw [hJ]; simp_all
      simp [hosts, e]
    ·
      replace h2 := not_eq_false h2
      refine WC.skip ?_
      refine At.blocknormal ?_
      refine At.then_ ?_
      refine WC.region ?_
      refine WL.p (by rfl) (Yl.move (by rfl)) ?_
      refine WL.p (by rfl) (Yl.add (by rfl) (by rfl) (by omega)) ?_
      refine WL.p (by rfl) (Yl.assign (by rfl)) ?_
      refine WL.nil ?_
      refine At.roundC (k + 1) (hs.only (by repeat (first | exact Sel.nil | (apply Sel.cons; (repeat (first | exact Ext.here | apply Ext.there)))))) ⟨by rfl, trivial⟩ ⟨by rfl, trivial⟩ ?_ ?_
      ·
        omega
      ·
        rw [hJ]; simp_all
  ·
    replace h1 := of_decide_eq_false h1
    rw [drop_out (l := l.l) (by omega)] at hJ
    refine WC.exit ?_
    refine At.thenexit ?_
    refine At.thenexit ?_
    refine At.blockexit ?_
    refine At.then_ ?_
    refine WC.seq ?_
    refine WL.p (by rfl) (Yl.move (by rfl)) ?_
    refine WL.p (by rfl) (Yl.len_sl slu42 (by rfl)) ?_
    refine WL.p (by rfl) (Yl.leq (by rfl) (by rfl)) ?_
    refine WL.p (by rfl) (Yl.assign (by rfl)) ?_
    refine WL.next ?_
    refine WC.ret ?_
    refine fin1' rfl (by rfl) ?_
    refine RetP.mk hs ?_
    have e : l.l.all isName = true := by rw [hJ]; rfl
    simp only [hosts, e, dec_le4, Bool.true_and]

theorem c_impl_areHosts (l : (Sl Str)) (w : World) (h_l : Ph.ok w l)  : Calls Try.prog 76 [Sl.v l].toArray w (RetP w (Bo (hosts l.l))) := by
  have hw := h_l.lt
  refine enterN 11 Try.func76 rfl rfl rfl ?_
  have hs := Sat.start w
  refine WC.seq ?_
  refine WL.p (by rfl) (Yl.assign (by rfl)) ?_
  refine WL.next ?_
  refine WC.seq ?_
  refine WL.p (by rfl) (Yl.move (by rfl)) ?_
  refine WL.p (by rfl) (Yl.len_sl slu42 (by rfl)) ?_
  refine WL.p (by rfl) (Yl.leq (by rfl) (by rfl)) ?_
  refine WL.p (by rfl) (Yl.move (by rfl)) ?_
  refine WL.split (d := 6) (by rfl) (fun h1 => ?_) (fun h1 => ?_)
  ·
    replace h1 := of_decide_eq_true h1
    refine WL.run (d := 6) (by rfl) (by rfl) ?_
    refine WL.p (by rfl) (Yl.move (by rfl)) ?_
    refine WL.run (d := 6) (by rfl) (by rfl) ?_
    refine WL.callp hs (by rfl) (Yc.func (by rfl) fn88) (c_slices_ContainsFunc___string_string_ _ 89 _ (fun x => !isName x) _ (Ph.old h_l hs) fn89 (fun x hx w1 hb1 => c_impl_areHosts_1 x w1 (Ph.ext hb1 ((Ph.old h_l hs).elems x hx)))) ?_
    clear hs; intro w hs
    refine WL.run (d := 6) (by rfl) (by rfl) ?_
    refine WL.p (by rfl) (Yl.not (by rfl)) ?_
    refine WL.p (by rfl) (Yl.pickT (by rfl) (by rfl)) ?_
    refine WL.p (by rfl) (Yl.assign (by rfl)) ?_
    refine WL.next ?_
    refine WC.ret ?_
    refine fin1' rfl (by rfl) ?_
    refine RetP.mk hs ?_
    rw [any_not_all]
    simp [hosts]; omega
  ·
    replace h1 := of_decide_eq_false h1
    refine WL.skip (d := 6) (by rfl) (by rfl) (by rfl) (by rfl) ?_
    refine WL.skip (d := 6) (by rfl) (by rfl) (by rfl) (by rfl) ?_
    refine WL.skip (d := 6) (by rfl) (by rfl) (by rfl) (by rfl) ?_
    refine WL.p (by rfl) (Yl.pickF (by rfl) (by rfl)) ?_
    refine WL.p (by rfl) (Yl.assign (by rfl)) ?_
    refine WL.next ?_
    refine WC.ret ?_
    refine fin1' rfl (by rfl) ?_
    refine RetP.mk hs ?_
    simp [hosts]; omega

theorem c_spec_IsPolicy (p : PPolicy) (w : World) (h_p : Ph.ok w p)  : Calls Try.prog 39 [.agg #[Bo p.set, Sl.v p.scripts, Sl.v p.styles, Sl.v p.images, S p.nonce]].toArray w (RetP w (Bo (p.lg.is))) := by
  refine enterN 50 Try.func39 rfl rfl rfl ?_
  have hs := Sat.start w
  refine WC.seq ?_
  refine WL.r (by rfl) (Yr.box hs (by rfl) (by rfl)) ?_
  clear hs; rintro _ w ⟨b1, rfl, hb, hs⟩; clear hb
  refine WL.p (by rfl) (Yl.assign (by rfl)) ?_
  refine WL.next ?_
  refine WC.seq' ?_
  refine WC.seq ?_
  refine WL.p (by rfl) (Yl.fieldAddr fa47_0 (by rfl)) ?_
  refine WL.p (by rfl) (Yl.loadB sca4 (by rfl) hs (by repeat (first | exact List.mem_cons_self | apply List.mem_cons_of_mem)) (by rfl)) ?_
  refine WL.p (by rfl) (Yl.not (by rfl)) ?_
  refine WL.next ?_
  refine WC.condS (by rfl) (fun h1 => ?_) (fun h1 => ?_)
  ·
    replace h1 := not_eq_true h1
    refine WC.seq ?_
    refine WL.p (by rfl) (Yl.fieldAddr fa47_1 (by rfl)) ?_
    refine WL.p (by rfl) (Yl.loadB sca42 (by rfl) hs (by repeat (first | exact List.mem_cons_self | apply List.mem_cons_of_mem)) (by rfl)) ?_
    refine WL.p (by rfl) (Yl.len_sl slu42 (by rfl)) ?_
    refine WL.p (by rfl) (Yl.eqi (by rfl) (by rfl)) ?_
    refine WL.p (by rfl) (Yl.move (by rfl)) ?_
    refine WL.split (d := 10) (by rfl) (fun h2 => ?_) (fun h2 => ?_)
    ·
      replace h2 := of_decide_eq_true h2
      refine WL.run (d := 10) (by rfl) (by rfl) ?_
      refine WL.p (by rfl) (Yl.fieldAddr fa47_2 (by rfl)) ?_
      refine WL.run (d := 10) (by rfl) (by rfl) ?_
      refine WL.p (by rfl) (Yl.loadB sca42 (by rfl) hs (by repeat (first | exact List.mem_cons_self | apply List.mem_cons_of_mem)) (by rfl)) ?_
      refine WL.run (d := 10) (by rfl) (by rfl) ?_
      refine WL.p (by rfl) (Yl.len_sl slu42 (by rfl)) ?_
      refine WL.run (d := 10) (by rfl) (by rfl) ?_
      refine WL.p (by rfl) (Yl.eqi (by rfl) (by rfl)) ?_
      refine WL.p (by rfl) (Yl.pickT (by rfl) (by rfl)) ?_
      refine WL.p (by rfl) (Yl.move (by rfl)) ?_
      refine WL.split (d := 16) (by rfl) (fun h3 => ?_) (fun h3 => ?_)
      ·
        replace h3 := of_decide_eq_true h3
        refine WL.run (d := 16) (by rfl) (by rfl) ?_
        refine WL.p (by rfl) (Yl.fieldAddr fa47_3 (by rfl)) ?_
        refine WL.run (d := 16) (by rfl) (by rfl) ?_
        refine WL.p (by rfl) (Yl.loadB sca42 (by rfl) hs (by repeat (first | exact List.mem_cons_self | apply List.mem_cons_of_mem)) (by rfl)) ?_
        refine WL.run (d := 16) (by rfl) (by rfl) ?_
        refine WL.p (by rfl) (Yl.len_sl slu42 (by rfl)) ?_
        refine WL.run (d := 16) (by rfl) (by rfl) ?_
        refine WL.p (by rfl) (Yl.eqi (by rfl) (by rfl)) ?_
        refine WL.p (by rfl) (Yl.pickT (by rfl) (by rfl)) ?_
        refine WL.p (by rfl) (Yl.move (by rfl)) ?_
        refine WL.split (d := 22) (by rfl) (fun h4 => ?_) (fun h4 => ?_)
        ·
          replace h4 := of_decide_eq_true h4
          refine WL.run (d := 22) (by rfl) (by rfl) ?_
          refine WL.p (by rfl) (Yl.fieldAddr fa47_4 (by rfl)) ?_
          refine WL.run (d := 22) (by rfl) (by rfl) ?_
          refine WL.p (by rfl) (Yl.loadB sca9 (by rfl) hs (by repeat (first | exact List.mem_cons_self | apply List.mem_cons_of_mem)) (by rfl)) ?_
          refine WL.run (d := 22) (by rfl) (by rfl) ?_
          refine WL.p (by rfl) (Yl.eqs (by rfl) (by rfl)) ?_
          refine WL.p (by rfl) (Yl.pickT (by rfl) (by rfl)) ?_
          refine WL.p (by rfl) (Yl.assign (by rfl)) ?_
          refine WL.next ?_
          refine WC.ret ?_
          refine At.thenret ?_
          refine fin1' rfl (by rfl) ?_
          refine RetP.mk hs ?_
          simp_all [TPolicy.is]
        ·
          replace h4 := of_decide_eq_false h4
          refine WL.skip (d := 22) (by rfl) (by rfl) (by rfl) (by rfl) ?_
          refine WL.skip (d := 22) (by rfl) (by rfl) (by rfl) (by rfl) ?_
          refine WL.skip (d := 22) (by rfl) (by rfl) (by rfl) (by rfl) ?_
          refine WL.p (by rfl) (Yl.pickF (by rfl) (by rfl)) ?_
          refine WL.p (by rfl) (Yl.assign (by rfl)) ?_
          refine WL.next ?_
          refine WC.ret ?_
          refine At.thenret ?_
          refine fin1' rfl (by rfl) ?_
          refine RetP.mk hs ?_
          simp_all [TPolicy.is]
      ·
        replace h3 := of_decide_eq_false h3
        refine WL.skip (d := 16) (by rfl) (by rfl) (by rfl) (by rfl) ?_
        refine WL.skip (d := 16) (by rfl) (by rfl) (by rfl) (by rfl) ?_
        refine WL.skip (d := 16) (by rfl) (by rfl) (by rfl) (by rfl) ?_
        refine WL.skip (d := 16) (by rfl) (by rfl) (by rfl) (by rfl) ?_
        refine WL.p (by rfl) (Yl.pickF (by rfl) (by rfl)) ?_
        refine WL.p (by rfl) (Yl.move (by rfl)) ?_
        refine WL.skip (d := 22) (by rfl) (by rfl) (by rfl) (by rfl) ?_
        refine WL.skip (d := 22) (by rfl) (by rfl) (by rfl) (by rfl) ?_
        refine WL.skip (d := 22) (by rfl) (by rfl) (by rfl) (by rfl) ?_
        refine WL.p (by rfl) (Yl.pickF (by rfl) (by rfl)) ?_
        refine WL.p (by rfl) (Yl.assign (by rfl)) ?_
        refine WL.next ?_
        refine WC.ret ?_
        refine At.thenret ?_
        refine fin1' rfl (by rfl) ?_
        refine RetP.mk hs ?_
        simp_all [TPolicy.is]
    ·
      replace h2 := of_decide_eq_false h2
      refine WL.skip (d := 10) (by rfl) (by rfl) (by rfl) (by rfl) ?_
      refine WL.skip (d := 10) (by rfl) (by rfl) (by rfl) (by rfl) ?_
      refine WL.skip (d := 10) (by rfl) (by rfl) (by rfl) (by rfl) ?_
      refine WL.skip (d := 10) (by rfl) (by rfl) (by rfl) (by rfl) ?_
      refine WL.p (by rfl) (Yl.pickF (by rfl) (by rfl)) ?_
      refine WL.p (by rfl) (Yl.move (by rfl)) ?_
      refine WL.skip (d := 16) (by rfl) (by rfl) (by rfl) (by rfl) ?_
      refine WL.skip (d := 16) (by rfl) (by rfl) (by rfl) (by rfl) ?_
      refine WL.skip (d := 16) (by rfl) (by rfl) (by rfl) (by rfl) ?_
      refine WL.skip (d := 16) (by rfl) (by rfl) (by rfl) (by rfl) ?_
      refine WL.p (by rfl) (Yl.pickF (by rfl) (by rfl)) ?_
      refine WL.p (by rfl) (Yl.move (by rfl)) ?_
      refine WL.skip (d := 22) (by rfl) (by rfl) (by rfl) (by rfl) ?_
      refine WL.skip (d := 22) (by rfl) (by rfl) (by rfl) (by rfl) ?_
      refine WL.skip (d := 22) (by rfl) (by rfl) (by rfl) (by rfl) ?_
      refine WL.p (by rfl) (Yl.pickF (by rfl) (by rfl)) ?_
      refine WL.p (by rfl) (Yl.assign (by rfl)) ?_
      refine WL.next ?_
      refine WC.ret ?_
      refine At.thenret ?_
      refine fin1' rfl (by rfl) ?_
      refine RetP.mk hs ?_
      simp_all [TPolicy.is]
  ·
    replace h1 := not_eq_false h1
    refine WC.skipn ?_
    refine WC.seq ?_
    refine WL.p (by rfl) (Yl.fieldAddr fa47_1 (by rfl)) ?_
    refine WL.p (by rfl) (Yl.loadB sca42 (by rfl) hs (by repeat (first | exact List.mem_cons_self | apply List.mem_cons_of_mem)) (by rfl)) ?_
    refine WL.callp hs (by rfl) (Yc.func (by rfl) fn75) (c_spec_l9Names _ _ (Ph.old h_p.scripts hs)) ?_
    clear hs; intro w hs
    refine WL.p (by rfl) (Yl.move (by rfl)) ?_
    refine WL.split (d := 30) (by rfl) (fun h2 => ?_) (fun h2 => ?_)
    ·
      refine WL.run (d := 30) (by rfl) (by rfl) ?_
      refine WL.p (by rfl) (Yl.fieldAddr fa47_2 (by rfl)) ?_
      refine WL.run (d := 30) (by rfl) (by rfl) ?_
      refine WL.p (by rfl) (Yl.loadB sca42 (by rfl) hs (by repeat (first | exact List.mem_cons_self | apply List.mem_cons_of_mem)) (by rfl)) ?_
      refine WL.run (d := 30) (by rfl) (by rfl) ?_
      refine WL.callp hs (by rfl) (Yc.func (by rfl) fn75) (c_spec_l9Names _ _ (Ph.old h_p.styles hs)) ?_
      clear hs; intro w hs
      refine WL.p (by rfl) (Yl.pickT (by rfl) (by rfl)) ?_
      refine WL.p (by rfl) (Yl.move (by rfl)) ?_
      refine WL.split (d := 35) (by rfl) (fun h3 => ?_) (fun h3 => ?_)
      ·
        refine WL.run (d := 35) (by rfl) (by rfl) ?_
        refine WL.p (by rfl) (Yl.fieldAddr fa47_3 (by rfl)) ?_
        refine WL.run (d := 35) (by rfl) (by rfl) ?_
        refine WL.p (by rfl) (Yl.loadB sca42 (by rfl) hs (by repeat (first | exact List.mem_cons_self | apply List.mem_cons_of_mem)) (by rfl)) ?_
        refine WL.run (d := 35) (by rfl) (by rfl) ?_
        refine WL.callp hs (by rfl) (Yc.func (by rfl) fn75) (c_spec_l9Names _ _ (Ph.old h_p.images hs)) ?_
        clear hs; intro w hs
        refine WL.p (by rfl) (Yl.pickT (by rfl) (by rfl)) ?_
        refine WL.p (by rfl) (Yl.move (by rfl)) ?_
        refine WL.split (d := 40) (by rfl) (fun h4 => ?_) (fun h4 => ?_)
        ·
          refine WL.run (d := 40) (by rfl) (by rfl) ?_
          refine WL.p (by rfl) (Yl.fieldAddr fa47_4 (by rfl)) ?_
          refine WL.run (d := 40) (by rfl) (by rfl) ?_
          refine WL.p (by rfl) (Yl.loadB sca9 (by rfl) hs (by repeat (first | exact List.mem_cons_self | apply List.mem_cons_of_mem)) (by rfl)) ?_
          refine WL.run (d := 40) (by rfl) (by rfl) ?_
          refine WL.p (by rfl) (Yl.eqs (by rfl) (by rfl)) ?_
          refine WL.run (d := 40) (by rfl) (by rfl) ?_
          refine WL.p (by rfl) (Yl.move (by rfl)) ?_
          refine WL.split (d := 44) (by rfl) (fun h5 => ?_) (fun h5 => ?_)
          ·
            replace h5 := of_decide_eq_true h5
            refine WL.skip (d := 44) (by rfl) (by rfl) (by rfl) (by rfl) ?_
            refine WL.skip (d := 44) (by rfl) (by rfl) (by rfl) (by rfl) ?_
            refine WL.skip (d := 44) (by rfl) (by rfl) (by rfl) (by rfl) ?_
            refine WL.run (d := 40) (by rfl) (by rfl) ?_
            refine WL.p (by rfl) (Yl.pickT (by rfl) (by rfl)) ?_
            refine WL.p (by rfl) (Yl.pickT (by rfl) (by rfl)) ?_
            refine WL.p (by rfl) (Yl.assign (by rfl)) ?_
            refine WL.next ?_
            refine WC.ret ?_
            refine fin1' rfl (by rfl) ?_
            refine RetP.mk hs ?_
            simp_all [TPolicy.is]
          ·
            replace h5 := of_decide_eq_false h5
            refine WL.run (d := 44) (by rfl) (by rfl) ?_
            refine WL.p (by rfl) (Yl.fieldAddr fa47_4 (by rfl)) ?_
            refine WL.run (d := 44) (by rfl) (by rfl) ?_
            refine WL.p (by rfl) (Yl.loadB sca9 (by rfl) hs (by repeat (first | exact List.mem_cons_self | apply List.mem_cons_of_mem)) (by rfl)) ?_
            refine WL.run (d := 44) (by rfl) (by rfl) ?_
            refine WL.callp hs (by rfl) (Yc.func (by rfl) fn66) (c_spec_IsValue _ _ (Ph.old h_p.nonce hs)) ?_
            clear hs; intro w hs
            refine WL.run (d := 40) (by rfl) (by rfl) ?_
            refine WL.p (by rfl) (Yl.pickF (by rfl) (by rfl)) ?_
            refine WL.p (by rfl) (Yl.pickT (by rfl) (by rfl)) ?_
            refine WL.p (by rfl) (Yl.assign (by rfl)) ?_
            refine WL.next ?_
            refine WC.ret ?_
            refine fin1' rfl (by rfl) ?_
            refine RetP.mk hs ?_
            simp_all [TPolicy.is]
        ·
          refine WL.skip (d := 40) (by rfl) (by rfl) (by rfl) (by rfl) ?_
          refine WL.skip (d := 40) (by rfl) (by rfl) (by rfl) (by rfl) ?_
          refine WL.skip (d := 40) (by rfl) (by rfl) (by rfl) (by rfl) ?_
          refine WL.skip (d := 40) (by rfl) (by rfl) (by rfl) (by rfl) ?_
          refine WL.skipU (d := 44) (by rfl) (by rfl) (by rfl) ?_
          refine WL.skipU (d := 44) (by rfl) (by rfl) (by rfl) ?_
          refine WL.skipU (d := 44) (by rfl) (by rfl) (by rfl) ?_
          refine WL.skip (d := 40) (by rfl) (by rfl) (by rfl) (by rfl) ?_
          refine WL.p (by rfl) (Yl.pickF (by rfl) (by rfl)) ?_
          refine WL.p (by rfl) (Yl.assign (by rfl)) ?_
          refine WL.next ?_
          refine WC.ret ?_
          refine fin1' rfl (by rfl) ?_
          refine RetP.mk hs ?_
          simp_all [TPolicy.is]
      ·
        refine WL.skip (d := 35) (by rfl) (by rfl) (by rfl) (by rfl) ?_
        refine WL.skip (d := 35) (by rfl) (by rfl) (by rfl) (by rfl) ?_
        refine WL.skip (d := 35) (by rfl) (by rfl) (by rfl) (by rfl) ?_
        refine WL.p (by rfl) (Yl.pickF (by rfl) (by rfl)) ?_
        refine WL.p (by rfl) (Yl.move (by rfl)) ?_
        refine WL.skip (d := 40) (by rfl) (by rfl) (by rfl) (by rfl) ?_
        refine WL.skip (d := 40) (by rfl) (by rfl) (by rfl) (by rfl) ?_
        refine WL.skip (d := 40) (by rfl) (by rfl) (by rfl) (by rfl) ?_
        refine WL.skip (d := 40) (by rfl) (by rfl) (by rfl) (by rfl) ?_
        refine WL.skipU (d := 44) (by rfl) (by rfl) (by rfl) ?_
        refine WL.skipU (d := 44) (by rfl) (by rfl) (by rfl) ?_
        refine WL.skipU (d := 44) (by rfl) (by rfl) (by rfl) ?_
        refine WL.skip (d := 40) (by rfl) (by rfl) (by rfl) (by rfl) ?_
        refine WL.p (by rfl) (Yl.pickF (by rfl) (by rfl)) ?_
        refine WL.p (by rfl) (Yl.assign (by rfl)) ?_
        refine WL.next ?_
        refine WC.ret ?_
        refine fin1' rfl (by rfl) ?_
        refine RetP.mk hs ?_
        simp_all [TPolicy.is]
    ·
      refine WL.skip (d := 30) (by rfl) (by rfl) (by rfl) (by rfl) ?_
      refine WL.skip (d := 30) (by rfl) (by rfl) (by rfl) (by rfl) ?_
      refine WL.skip (d := 30) (by rfl) (by rfl) (by rfl) (by rfl) ?_
      refine WL.p (by rfl) (Yl.pickF (by rfl) (by rfl)) ?_
      refine WL.p (by rfl) (Yl.move (by rfl)) ?_
      refine WL.skip (d := 35) (by rfl) (by rfl) (by rfl) (by rfl) ?_
      refine WL.skip (d := 35) (by rfl) (by rfl) (by rfl) (by rfl) ?_
      refine WL.skip (d := 35) (by rfl) (by rfl) (by rfl) (by rfl) ?_
      refine WL.p (by rfl) (Yl.pickF (by rfl) (by rfl)) ?_
      refine WL.p (by rfl) (Yl.move (by rfl)) ?_
      refine WL.skip (d := 40) (by rfl) (by rfl) (by rfl) (by rfl) ?_
      refine WL.skip (d := 40) (by rfl) (by rfl) (by rfl) (by rfl) ?_
      refine WL.skip (d := 40) (by rfl) (by rfl) (by rfl) (by rfl) ?_
      refine WL.skip (d := 40) (by rfl) (by rfl) (by rfl) (by rfl) ?_
      refine WL.skipU (d := 44) (by rfl) (by rfl) (by rfl) ?_
      refine WL.skipU (d := 44) (by rfl) (by rfl) (by rfl) ?_
      refine WL.skipU (d := 44) (by rfl) (by rfl) (by rfl) ?_
      refine WL.skip (d := 40) (by rfl) (by rfl) (by rfl) (by rfl) ?_
      refine WL.p (by rfl) (Yl.pickF (by rfl) (by rfl)) ?_
      refine WL.p (by rfl) (Yl.assign (by rfl)) ?_
      refine WL.next ?_
      refine WC.ret ?_
      refine fin1' rfl (by rfl) ?_
      refine RetP.mk hs ?_
      simp_all [TPolicy.is]

theorem c_impl_IsPolicy (p : PPolicy) (w : World) (h_p : Ph.ok w p)  : Calls Try.prog 40 [.agg #[Bo p.set, Sl.v p.scripts, Sl.v p.styles, Sl.v p.images, S p.nonce]].toArray w (RetP w (Bo (p.lg.is))) := by
  refine enterN 50 Try.func40 rfl rfl rfl ?_
  have hs := Sat.start w
  refine WC.seq ?_
  refine WL.r (by rfl) (Yr.box hs (by rfl) (by rfl)) ?_
  clear hs; rintro _ w ⟨b1, rfl, hb, hs⟩; clear hb
  refine WL.p (by rfl) (Yl.assign (by rfl)) ?_
  refine WL.next ?_
  refine WC.seq' ?_
  refine WC.seq ?_
  refine WL.p (by rfl) (Yl.fieldAddr fa47_0 (by rfl)) ?_
  refine WL.p (by rfl) (Yl.loadB sca4 (by rfl) hs (by repeat (first | exact List.mem_cons_self | apply List.mem_cons_of_mem)) (by rfl)) ?_
  refine WL.p (by rfl) (Yl.not (by rfl)) ?_
  refine WL.next ?_
  refine WC.condS (by rfl) (fun h1 => ?_) (fun h1 => ?_)
  ·
    replace h1 := not_eq_true h1
    refine WC.seq ?_
    refine WL.p (by rfl) (Yl.fieldAddr fa47_1 (by rfl)) ?_
    refine WL.p (by rfl) (Yl.loadB sca42 (by rfl) hs (by repeat (first | exact List.mem_cons_self | apply List.mem_cons_of_mem)) (by rfl)) ?_
    refine WL.p (by rfl) (Yl.len_sl slu42 (by rfl)) ?_
    refine WL.p (by rfl) (Yl.eqi (by rfl) (by rfl)) ?_
    refine WL.p (by rfl) (Yl.move (by rfl)) ?_
    refine WL.split (d := 10) (by rfl) (fun h2 => ?_) (fun h2 => ?_)
    ·
      replace h2 := of_decide_eq_true h2
      refine WL.run (d := 10) (by rfl) (by rfl) ?_
      refine WL.p (by rfl) (Yl.fieldAddr fa47_2 (by rfl)) ?_
      refine WL.run (d := 10) (by rfl) (by rfl) ?_
      refine WL.p (by rfl) (Yl.loadB sca42 (by rfl) hs (by repeat (first | exact List.mem_cons_self | apply List.mem_cons_of_mem)) (by rfl)) ?_
      refine WL.run (d := 10) (by rfl) (by rfl) ?_
      refine WL.p (by rfl) (Yl.len_sl slu42 (by rfl)) ?_
      refine WL.run (d := 10) (by rfl) (by rfl) ?_
      refine WL.p (by rfl) (Yl.eqi (by rfl) (by rfl)) ?_
      refine WL.p (by rfl) (Yl.pickT (by rfl) (by rfl)) ?_
      refine WL.p (by rfl) (Yl.move (by rfl)) ?_
      refine WL.split (d := 16) (by rfl) (fun h3 => ?_) (fun h3 => ?_)
      ·
        replace h3 := of_decide_eq_true h3
        refine WL.run (d := 16) (by rfl) (by rfl) ?_
        refine WL.p (by rfl) (Yl.fieldAddr fa47_3 (by rfl)) ?_
        refine WL.run (d := 16) (by rfl) (by rfl) ?_
        refine WL.p (by rfl) (Yl.loadB sca42 (by rfl) hs (by repeat (first | exact List.mem_cons_self | apply List.mem_cons_of_mem)) (by rfl)) ?_
        refine WL.run (d := 16) (by rfl) (by rfl) ?_
        refine WL.p (by rfl) (Yl.len_sl slu42 (by rfl)) ?_
        refine WL.run (d := 16) (by rfl) (by rfl) ?_
        refine WL.p (by rfl) (Yl.eqi (by rfl) (by rfl)) ?_
        refine WL.p (by rfl) (Yl.pickT (by rfl) (by rfl)) ?_
        refine WL.p (by rfl) (Yl.move (by rfl)) ?_
        refine WL.split (d := 22) (by rfl) (fun h4 => ?_) (fun h4 => ?_)
        ·
          replace h4 := of_decide_eq_true h4
          refine WL.run (d := 22) (by rfl) (by rfl) ?_
          refine WL.p (by rfl) (Yl.fieldAddr fa47_4 (by rfl)) ?_
          refine WL.run (d := 22) (by rfl) (by rfl) ?_
          refine WL.p (by rfl) (Yl.loadB sca9 (by rfl) hs (by repeat (first | exact List.mem_cons_self | apply List.mem_cons_of_mem)) (by rfl)) ?_
          refine WL.run (d := 22) (by rfl) (by rfl) ?_
          refine WL.p (by rfl) (Yl.eqs (by rfl) (by rfl)) ?_
          refine WL.p (by rfl) (Yl.pickT (by rfl) (by rfl)) ?_
          refine WL.p (by rfl) (Yl.assign (by rfl)) ?_
          refine WL.next ?_
          refine WC.ret ?_
          refine At.thenret ?_
          refine fin1' rfl (by rfl) ?_
          refine RetP.mk hs ?_
          simp_all [TPolicy.is]
        ·
          replace h4 := of_decide_eq_false h4
          refine WL.skip (d := 22) (by rfl) (by rfl) (by rfl) (by rfl) ?_
          refine WL.skip (d := 22) (by rfl) (by rfl) (by rfl) (by rfl) ?_
          refine WL.skip (d := 22) (by rfl) (by rfl) (by rfl) (by rfl) ?_
          refine WL.p (by rfl) (Yl.pickF (by rfl) (by rfl)) ?_
          refine WL.p (by rfl) (Yl.assign (by rfl)) ?_
          refine WL.next ?_
          refine WC.ret ?_
          refine At.thenret ?_
          refine fin1' rfl (by rfl) ?_
          refine RetP.mk hs ?_
          simp_all [TPolicy.is]
      ·
        replace h3 := of_decide_eq_false h3
        refine WL.skip (d := 16) (by rfl) (by rfl) (by rfl) (by rfl) ?_
        refine WL.skip (d := 16) (by rfl) (by rfl) (by rfl) (by rfl) ?_
        refine WL.skip (d := 16) (by rfl) (by rfl) (by rfl) (by rfl) ?_
        refine WL.skip (d := 16) (by rfl) (by rfl) (by rfl) (by rfl) ?_
        refine WL.p (by rfl) (Yl.pickF (by rfl) (by rfl)) ?_
        refine WL.p (by rfl) (Yl.move (by rfl)) ?_
        refine WL.skip (d := 22) (by rfl) (by rfl) (by rfl) (by rfl) ?_
        refine WL.skip (d := 22) (by rfl) (by rfl) (by rfl) (by rfl) ?_
        refine WL.skip (d := 22) (by rfl) (by rfl) (by rfl) (by rfl) ?_
        refine WL.p (by rfl) (Yl.pickF (by rfl) (by rfl)) ?_
        refine WL.p (by rfl) (Yl.assign (by rfl)) ?_
        refine WL.next ?_
        refine WC.ret ?_
        refine At.thenret ?_
        refine fin1' rfl (by rfl) ?_
        refine RetP.mk hs ?_
        simp_all [TPolicy.is]
    ·
      replace h2 := of_decide_eq_false h2
      refine WL.skip (d := 10) (by rfl) (by rfl) (by rfl) (by rfl) ?_
      refine WL.skip (d := 10) (by rfl) (by rfl) (by rfl) (by rfl) ?_
      refine WL.skip (d := 10) (by rfl) (by rfl) (by rfl) (by rfl) ?_
      refine WL.skip (d := 10) (by rfl) (by rfl) (by rfl) (by rfl) ?_
      refine WL.p (by rfl) (Yl.pickF (by rfl) (by rfl)) ?_
      refine WL.p (by rfl) (Yl.move (by rfl)) ?_
      refine WL.skip (d := 16) (by rfl) (by rfl) (by rfl) (by rfl) ?_
      refine WL.skip (d := 16) (by rfl) (by rfl) (by rfl) (by rfl) ?_
      refine WL.skip (d := 16) (by rfl) (by rfl) (by rfl) (by rfl) ?_
      refine WL.skip (d := 16) (by rfl) (by rfl) (by rfl) (by rfl) ?_
      refine WL.p (by rfl) (Yl.pickF (by rfl) (by rfl)) ?_
      refine WL.p (by rfl) (Yl.move (by rfl)) ?_
      refine WL.skip (d := 22) (by rfl) (by rfl) (by rfl) (by rfl) ?_
      refine WL.skip (d := 22) (by rfl) (by rfl) (by rfl) (by rfl) ?_
      refine WL.skip (d := 22) (by rfl) (by rfl) (by rfl) (by rfl) ?_
      refine WL.p (by rfl) (Yl.pickF (by rfl) (by rfl)) ?_
      refine WL.p (by rfl) (Yl.assign (by rfl)) ?_
      refine WL.next ?_
      refine WC.ret ?_
      refine At.thenret ?_
      refine fin1' rfl (by rfl) ?_
      refine RetP.mk hs ?_
      simp_all [TPolicy.is]
  ·
    replace h1 := not_eq_false h1
    refine WC.skipn ?_
    refine WC.seq ?_
    refine WL.p (by rfl) (Yl.fieldAddr fa47_1 (by rfl)) ?_
    refine WL.p (by rfl) (Yl.loadB sca42 (by rfl) hs (by repeat (first | exact List.mem_cons_self | apply List.mem_cons_of_mem)) (by rfl)) ?_
    refine WL.callp hs (by rfl) (Yc.func (by rfl) fn76) (c_impl_areHosts _ _ (Ph.old h_p.scripts hs)) ?_
    clear hs; intro w hs
    refine WL.p (by rfl) (Yl.move (by rfl)) ?_
    refine WL.split (d := 30) (by rfl) (fun h2 => ?_) (fun h2 => ?_)
    ·
      refine WL.run (d := 30) (by rfl) (by rfl) ?_
      refine WL.p (by rfl) (Yl.fieldAddr fa47_2 (by rfl)) ?_
      refine WL.run (d := 30) (by rfl) (by rfl) ?_
      refine WL.p (by rfl) (Yl.loadB sca42 (by rfl) hs (by repeat (first | exact List.mem_cons_self | apply List.mem_cons_of_mem)) (by rfl)) ?_
      refine WL.run (d := 30) (by rfl) (by rfl) ?_
      refine WL.callp hs (by rfl) (Yc.func (by rfl) fn76) (c_impl_areHosts _ _ (Ph.old h_p.styles hs)) ?_
      clear hs; intro w hs
      refine WL.p (by rfl) (Yl.pickT (by rfl) (by rfl)) ?_
      refine WL.p (by rfl) (Yl.move (by rfl)) ?_
      refine WL.split (d := 35) (by rfl) (fun h3 => ?_) (fun h3 => ?_)
      ·
        refine WL.run (d := 35) (by rfl) (by rfl) ?_
        refine WL.p (by rfl) (Yl.fieldAddr fa47_3 (by rfl)) ?_
        refine WL.run (d := 35) (by rfl) (by rfl) ?_
        refine WL.p (by rfl) (Yl.loadB sca42 (by rfl) hs (by repeat (first | exact List.mem_cons_self | apply List.mem_cons_of_mem)) (by rfl)) ?_
        refine WL.run (d := 35) (by rfl) (by rfl) ?_
        refine WL.callp hs (by rfl) (Yc.func (by rfl) fn76) (c_impl_areHosts _ _ (Ph.old h_p.images hs)) ?_
        clear hs; intro w hs
        refine WL.p (by rfl) (Yl.pickT (by rfl) (by rfl)) ?_
        refine WL.p (by rfl) (Yl.move (by rfl)) ?_
        refine WL.split (d := 40) (by rfl) (fun h4 => ?_) (fun h4 => ?_)
        ·
          refine WL.run (d := 40) (by rfl) (by rfl) ?_
          refine WL.p (by rfl) (Yl.fieldAddr fa47_4 (by rfl)) ?_
          refine WL.run (d := 40) (by rfl) (by rfl) ?_
          refine WL.p (by rfl) (Yl.loadB sca9 (by rfl) hs (by repeat (first | exact List.mem_cons_self | apply List.mem_cons_of_mem)) (by rfl)) ?_
          refine WL.run (d := 40) (by rfl) (by rfl) ?_
          refine WL.p (by rfl) (Yl.eqs (by rfl) (by rfl)) ?_
          refine WL.run (d := 40) (by rfl) (by rfl) ?_
          refine WL.p (by rfl) (Yl.move (by rfl)) ?_
          refine WL.split (d := 44) (by rfl) (fun h5 => ?_) (fun h5 => ?_)
          ·
            replace h5 := of_decide_eq_true h5
            refine WL.skip (d := 44) (by rfl) (by rfl) (by rfl) (by rfl) ?_
            refine WL.skip (d := 44) (by rfl) (by rfl) (by rfl) (by rfl) ?_
            refine WL.skip (d := 44) (by rfl) (by rfl) (by rfl) (by rfl) ?_
            refine WL.run (d := 40) (by rfl) (by rfl) ?_
            refine WL.p (by rfl) (Yl.pickT (by rfl) (by rfl)) ?_
            refine WL.p (by rfl) (Yl.pickT (by rfl) (by rfl)) ?_
            refine WL.p (by rfl) (Yl.assign (by rfl)) ?_
            refine WL.next ?_
            refine WC.ret ?_
            refine fin1' rfl (by rfl) ?_
            refine RetP.mk hs ?_
            simp_all [TPolicy.is]
          ·
            replace h5 := of_decide_eq_false h5
            refine WL.run (d := 44) (by rfl) (by rfl) ?_
            refine WL.p (by rfl) (Yl.fieldAddr fa47_4 (by rfl)) ?_
            refine WL.run (d := 44) (by rfl) (by rfl) ?_
            refine WL.p (by rfl) (Yl.loadB sca9 (by rfl) hs (by repeat (first | exact List.mem_cons_self | apply List.mem_cons_of_mem)) (by rfl)) ?_
            refine WL.run (d := 44) (by rfl) (by rfl) ?_
            refine WL.callp hs (by rfl) (Yc.func (by rfl) fn70) (c_impl_IsValue _ _ (Ph.old h_p.nonce hs)) ?_
            clear hs; intro w hs
            refine WL.run (d := 40) (by rfl) (by rfl) ?_
            refine WL.p (by rfl) (Yl.pickF (by rfl) (by rfl)) ?_
            refine WL.p (by rfl) (Yl.pickT (by rfl) (by rfl)) ?_
            refine WL.p (by rfl) (Yl.assign (by rfl)) ?_
            refine WL.next ?_
            refine WC.ret ?_
            refine fin1' rfl (by rfl) ?_
            refine RetP.mk hs ?_
            simp_all [TPolicy.is]
        ·
          refine WL.skip (d := 40) (by rfl) (by rfl) (by rfl) (by rfl) ?_
          refine WL.skip (d := 40) (by rfl) (by rfl) (by rfl) (by rfl) ?_
          refine WL.skip (d := 40) (by rfl) (by rfl) (by rfl) (by rfl) ?_
          refine WL.skip (d := 40) (by rfl) (by rfl) (by rfl) (by rfl) ?_
          refine WL.skipU (d := 44) (by rfl) (by rfl) (by rfl) ?_
          refine WL.skipU (d := 44) (by rfl) (by rfl) (by rfl) ?_
          refine WL.skipU (d := 44) (by rfl) (by rfl) (by rfl) ?_
          refine WL.skip (d := 40) (by rfl) (by rfl) (by rfl) (by rfl) ?_
          refine WL.p (by rfl) (Yl.pickF (by rfl) (by rfl)) ?_
          refine WL.p (by rfl) (Yl.assign (by rfl)) ?_
          refine WL.next ?_
          refine WC.ret ?_
          refine fin1' rfl (by rfl) ?_
          refine RetP.mk hs ?_
          simp_all [TPolicy.is]
      ·
        refine WL.skip (d := 35) (by rfl) (by rfl) (by rfl) (by rfl) ?_
        refine WL.skip (d := 35) (by rfl) (by rfl) (by rfl) (by rfl) ?_
        refine WL.skip (d := 35) (by rfl) (by rfl) (by rfl) (by rfl) ?_
        refine WL.p (by rfl) (Yl.pickF (by rfl) (by rfl)) ?_
        refine WL.p (by rfl) (Yl.move (by rfl)) ?_
        refine WL.skip (d := 40) (by rfl) (by rfl) (by rfl) (by rfl) ?_
        refine WL.skip (d := 40) (by rfl) (by rfl) (by rfl) (by rfl) ?_
        refine WL.skip (d := 40) (by rfl) (by rfl) (by rfl) (by rfl) ?_
        refine WL.skip (d := 40) (by rfl) (by rfl) (by rfl) (by rfl) ?_
        refine WL.skipU (d := 44) (by rfl) (by rfl) (by rfl) ?_
        refine WL.skipU (d := 44) (by rfl) (by rfl) (by rfl) ?_
        refine WL.skipU (d := 44) (by rfl) (by rfl) (by rfl) ?_
        refine WL.skip (d := 40) (by rfl) (by rfl) (by rfl) (by rfl) ?_
        refine WL.p (by rfl) (Yl.pickF (by rfl) (by rfl)) ?_
        refine WL.p (by rfl) (Yl.assign (by rfl)) ?_
        refine WL.next ?_
        refine WC.ret ?_
        refine fin1' rfl (by rfl) ?_
        refine RetP.mk hs ?_
        simp_all [TPolicy.is]
    ·
      refine WL.skip (d := 30) (by rfl) (by rfl) (by rfl) (by rfl) ?_
      refine WL.skip (d := 30) (by rfl) (by rfl) (by rfl) (by rfl) ?_
      refine WL.skip (d := 30) (by rfl) (by rfl) (by rfl) (by rfl) ?_
      refine WL.p (by rfl) (Yl.pickF (by rfl) (by rfl)) ?_
      refine WL.p (by rfl) (Yl.move (by rfl)) ?_
      refine WL.skip (d := 35) (by rfl) (by rfl) (by rfl) (by rfl) ?_
      refine WL.skip (d := 35) (by rfl) (by rfl) (by rfl) (by rfl) ?_
      refine WL.skip (d := 35) (by rfl) (by rfl) (by rfl) (by rfl) ?_
      refine WL.p (by rfl) (Yl.pickF (by rfl) (by rfl)) ?_
      refine WL.p (by rfl) (Yl.move (by rfl)) ?_
      refine WL.skip (d := 40) (by rfl) (by rfl) (by rfl) (by rfl) ?_
      refine WL.skip (d := 40) (by rfl) (by rfl) (by rfl) (by rfl) ?_
      refine WL.skip (d := 40) (by rfl) (by rfl) (by rfl) (by rfl) ?_
      refine WL.skip (d := 40) (by rfl) (by rfl) (by rfl) (by rfl) ?_
      refine WL.skipU (d := 44) (by rfl) (by rfl) (by rfl) ?_
      refine WL.skipU (d := 44) (by rfl) (by rfl) (by rfl) ?_
      refine WL.skipU (d := 44) (by rfl) (by rfl) (by rfl) ?_
      refine WL.skip (d := 40) (by rfl) (by rfl) (by rfl) (by rfl) ?_
      refine WL.p (by rfl) (Yl.pickF (by rfl) (by rfl)) ?_
      refine WL.p (by rfl) (Yl.assign (by rfl)) ?_
      refine WL.next ?_
      refine WC.ret ?_
      refine fin1' rfl (by rfl) ?_
      refine RetP.mk hs ?_
      simp_all [TPolicy.is]

theorem c_laws_FnExactAllowsInline (aP : PPolicy) (aNonce : Str) (w : World) (h_aP : Ph.ok w aP)  : Calls Try.prog 6 [.agg #[Bo aP.set, Sl.v aP.scripts, Sl.v aP.styles, Sl.v aP.images, S aP.nonce], S aNonce].toArray w (RetP w (Bo true)) := by
  refine enterN 34 Try.func6 rfl rfl rfl ?_
  have hs := Sat.start w
  refine WC.seq ?_
  refine WL.r (by rfl) (Yr.box hs (by rfl) (by rfl)) ?_
  clear hs; rintro _ w ⟨b1, rfl, hb, hs⟩; clear hb
  refine WL.p (by rfl) (Yl.assign (by rfl)) ?_
  refine WL.next ?_
  refine WC.seq' ?_
  refine WC.seq ?_
  refine WL.p (by rfl) (Yl.move (by rfl)) ?_
  refine WL.p (by rfl) (Yl.len_str str9 (by rfl)) ?_
  refine WL.p (by rfl) (Yl.gtr (by rfl) (by rfl)) ?_
  refine WL.next ?_
  refine WC.condS (by rfl) (fun h1 => ?_) (fun h1 => ?_)
  ·
    replace h1 := of_decide_eq_true h1
    refine WC.seq ?_
    refine WL.p (by rfl) (Yl.assign (by rfl)) ?_
    refine WL.next ?_
    refine WC.ret ?_
    refine At.thenret ?_
    refine fin1' rfl (by rfl) ?_
    refine RetP.mk hs ?_
    simp_all
  ·
    replace h1 := of_decide_eq_false h1
    refine WC.skipn ?_
    refine WC.seq ?_
    refine WL.p (by rfl) (Yl.assign (by rfl)) ?_
    refine WL.next ?_
    refine WC.seq ?_
    refine WL.p (by rfl) (Yl.loadAB agg44 (by rfl) hs (by repeat (first | exact List.mem_cons_self | apply List.mem_cons_of_mem)) (by rfl) (by rfl)) ?_
    refine WL.p (by rfl) (Yl.move (by rfl)) ?_
    refine WL.callp hs (by rfl) (Yc.func (by rfl) fn26) (c_laws_szPolicy _ _ _ ⟨(Ph.old h_aP.set hs), (Ph.old h_aP.scripts hs), (Ph.old h_aP.styles hs), (Ph.old h_aP.images hs), (Ph.old h_aP.nonce hs)⟩ (by first | assumption | omega | (simp only [lsz] at *; omega) | (simp only [lsz, strsz, TPolicy.size, TCache.size, TAddr.size, TRequest.size, TEntry.size, TResponse.size, TLine.size] at *; omega)) (by first | assumption | omega | (simp only [lsz] at *; omega) | (simp only [lsz, strsz, TPolicy.size, TCache.size, TAddr.size, TRequest.size, TEntry.size, TResponse.size, TLine.size] at *; omega))) ?_
    clear hs; intro w hs
    refine WL.p (by rfl) (Yl.assign (by rfl)) ?_
    refine WL.next ?_
    refine WC.seq' ?_
    refine WC.seq ?_
    refine WL.p (by rfl) (Yl.move (by rfl)) ?_
    refine WL.p (by rfl) (Yl.lss (by rfl) (by rfl)) ?_
    refine WL.next ?_
    refine WC.condS (by rfl) (fun h2 => ?_) (fun h2 => ?_)
    ·
      replace h2 := lessN_neg (of_decide_eq_true h2)
      refine WC.seq ?_
      refine WL.p (by rfl) (Yl.assign (by rfl)) ?_
      refine WL.next ?_
      refine WC.ret ?_
      refine At.thenret ?_
      refine fin1' rfl (by rfl) ?_
      refine RetP.mk hs ?_
      simp_all
    ·
      replace h2 := lessN_nn (by omega) (of_decide_eq_false h2)
      refine WC.skipn ?_
      refine WC.seq ?_
      refine WL.p (by rfl) (Yl.loadAB agg44 (by rfl) hs (by repeat (first | exact List.mem_cons_self | apply List.mem_cons_of_mem)) (by rfl) (by rfl)) ?_
      refine WL.call hs (by rfl) (Yc.func (by rfl) fn28) (c_laws_toPolicy _ _ ⟨(Ph.old h_aP.set hs), (Ph.old h_aP.scripts hs), (Ph.old h_aP.styles hs), (Ph.old h_aP.images hs), (Ph.old h_aP.nonce hs)⟩ (by first | assumption | omega | (simp only [lsz] at *; omega) | (simp only [lsz, strsz, TPolicy.size, TCache.size, TAddr.size, TRequest.size, TEntry.size, TResponse.size, TLine.size] at *; omega))) ?_
      have hs0 := hs; clear hs; intro v w hb hR hs; clear hs
      obtain ⟨x2, rfl, hx2, hf2⟩ := hR
      obtain ⟨F2, hs⟩ := hf2.sat hs0 hb; clear hs0 hf2
      refine WL.p (by rfl) (Yl.move (by rfl)) ?_
      refine WL.callp hs (by rfl) (Yc.func (by rfl) fn27) (c_spec_AllowsInline _ _ _ (hs.okow (x := x2) (F := F2) (by repeat (first | exact List.mem_cons_self | apply List.mem_cons_of_mem)))) ?_
      clear hs; intro w hs
      refine WL.p (by rfl) (Yl.assign (by rfl)) ?_
      refine WL.next ?_
      refine WC.seq ?_
      refine WL.p (by rfl) (Yl.loadAB agg44 (by rfl) hs (by repeat (first | exact List.mem_cons_self | apply List.mem_cons_of_mem)) (by rfl) (by rfl)) ?_
      refine WL.call hs (by rfl) (Yc.func (by rfl) fn28) (c_laws_toPolicy _ _ ⟨(Ph.old h_aP.set hs), (Ph.old h_aP.scripts hs), (Ph.old h_aP.styles hs), (Ph.old h_aP.images hs), (Ph.old h_aP.nonce hs)⟩ (by first | assumption | omega | (simp only [lsz] at *; omega) | (simp only [lsz, strsz, TPolicy.size, TCache.size, TAddr.size, TRequest.size, TEntry.size, TResponse.size, TLine.size] at *; omega))) ?_
      have hs0 := hs; clear hs; intro v w hb hR hs; clear hs
      obtain ⟨x3, rfl, hx3, hf3⟩ := hR
      obtain ⟨F3, hs⟩ := hf3.sat hs0 hb; clear hs0 hf3
      refine WL.r (by rfl) (Yr.alloc hs zt47) ?_
      clear hs; rintro _ w ⟨b4, rfl, hb, hs⟩; clear hb
      refine WL.s (Yr.storeB hs (by rfl) (by rfl) (by rfl) (by repeat (first | exact Repl.here | apply Repl.there)) (by repeat (first | (apply SetAt.here; repeat (first | exact Over.nil | apply Over.cons)) | apply SetAt.there)) (by rfl) (by exact szf47)) ?_
      clear hs; rintro _ w hs
      refine WL.next ?_
      refine WC.seq ?_
      refine WL.p (by rfl) (Yl.loadAB agg47 (by rfl) hs (by repeat (first | exact List.mem_cons_self | apply List.mem_cons_of_mem)) (by rfl) (by rfl)) ?_
      refine WL.p (by rfl) (Yl.move (by rfl)) ?_
      refine WL.callp hs (by rfl) (Yc.func (by rfl) fn29) (c_impl_AllowsInline _ _ _ ⟨(hs.okow (x := x3) (F := F3) (by repeat (first | exact List.mem_cons_self | apply List.mem_cons_of_mem))).set, (hs.okow (x := x3) (F := F3) (by repeat (first | exact List.mem_cons_self | apply List.mem_cons_of_mem))).scripts, (hs.okow (x := x3) (F := F3) (by repeat (first | exact List.mem_cons_self | apply List.mem_cons_of_mem))).styles, (hs.okow (x := x3) (F := F3) (by repeat (first | exact List.mem_cons_self | apply List.mem_cons_of_mem))).images, (hs.okow (x := x3) (F := F3) (by repeat (first | exact List.mem_cons_self | apply List.mem_cons_of_mem))).nonce⟩) ?_
      clear hs; intro w hs
      refine WL.p (by rfl) (Yl.assign (by rfl)) ?_
      refine WL.next ?_
      refine WC.seq' ?_
      refine WC.seq ?_
      refine WL.p (by rfl) (Yl.move (by rfl)) ?_
      refine WL.p (by rfl) (Yl.move (by rfl)) ?_
      refine WL.p (by rfl) (Yl.neb bool4 (by rfl) (by rfl)) ?_
      refine WL.next ?_
      refine WC.condS (by rfl) (fun h3 => ?_) (fun h3 => ?_)
      ·
        replace h3 := not_eq_true h3
        replace h3 := beq_false h3
        refine WC.seq ?_
        refine WL.p (by rfl) (Yl.assign (by rfl)) ?_
        refine WL.next ?_
        refine WC.ret ?_
        refine At.thenret ?_
        refine fin1' rfl (by rfl) ?_
        refine RetP.mk hs ?_
        try simp only [hx2, hx3] at h1
        try simp only [hx2, hx3] at h2
        try simp only [hx2, hx3] at h3
        all_goals (first | (simp only [hx2, hx3]; done) | simp_all)
      ·
        replace h3 := not_eq_false h3
        replace h3 := beq_true h3
        refine WC.skipn ?_
        refine WC.seq' ?_
        refine WC.anyn mixed hs ?_
        clear hs; intro w hs
        refine WA.p (i := 0) (by rfl) (by kernel_rfl) (by kernel_rfl) (by kernel_rfl) (by rfl) (hs.only (by repeat (first | exact Sel.nil | (apply Sel.cons; (repeat (first | exact Ext.here | apply Ext.there)))))) (fun w hs => Yl.loadAB agg47 (by rfl) hs (by repeat (first | exact List.mem_cons_self | apply List.mem_cons_of_mem)) (by rfl) (by rfl)) ?_
        refine WA.p (i := 1) (by rfl) (by kernel_rfl) (by kernel_rfl) (by kernel_rfl) (by rfl) (hs.only (by repeat (first | exact Sel.nil | (apply Sel.cons; (repeat (first | exact Ext.here | apply Ext.there)))))) (fun w hs => Yl.loadAB agg44 (by rfl) hs (by repeat (first | exact List.mem_cons_self | apply List.mem_cons_of_mem)) (by rfl) (by rfl)) ?_
        refine WA.call2 (i := 2) hs (fun _ hs => hs.only (by repeat (first | exact Sel.nil | (apply Sel.cons; (repeat (first | exact Ext.here | apply Ext.there)))))) (by kernel_rfl) (by rfl) (by rfl) (Yc.func (by rfl) fn28) (c_laws_toPolicy _ _ ⟨(Ph.old h_aP.set hs), (Ph.old h_aP.scripts hs), (Ph.old h_aP.styles hs), (Ph.old h_aP.images hs), (Ph.old h_aP.nonce hs)⟩ (by first | assumption | omega | (simp only [lsz] at *; omega) | (simp only [lsz, strsz, TPolicy.size, TCache.size, TAddr.size, TRequest.size, TEntry.size, TResponse.size, TLine.size] at *; omega))) ?_
        have hs0 := hs; clear hs; intro v w hb hR hs; clear hs
        obtain ⟨x5, rfl, hx5, hf5⟩ := hR
        obtain ⟨F5, hs⟩ := hf5.sat hs0 hb; clear hs0 hf5
        refine WA.callp2 (i := 3) hs (fun _ hs => hs.only (by repeat (first | exact Sel.nil | (apply Sel.cons; (repeat (first | exact Ext.here | apply Ext.there)))))) (by kernel_rfl) (by rfl) (by rfl) (Yc.func (by rfl) fn30) (c_laws_eqPolicy _ _ _ ⟨(hs.okow (x := x3) (F := F3) (by repeat (first | exact List.mem_cons_self | apply List.mem_cons_of_mem))).set, (hs.okow (x := x3) (F := F3) (by repeat (first | exact List.mem_cons_self | apply List.mem_cons_of_mem))).scripts, (hs.okow (x := x3) (F := F3) (by repeat (first | exact List.mem_cons_self | apply List.mem_cons_of_mem))).styles, (hs.okow (x := x3) (F := F3) (by repeat (first | exact List.mem_cons_self | apply List.mem_cons_of_mem))).images, (hs.okow (x := x3) (F := F3) (by repeat (first | exact List.mem_cons_self | apply List.mem_cons_of_mem))).nonce⟩ (hs.okow (x := x5) (F := F5) (by repeat (first | exact List.mem_cons_self | apply List.mem_cons_of_mem)))) ?_
        clear hs; intro w hs
        refine WA.p (i := 4) (by rfl) (by kernel_rfl) (by kernel_rfl) (by kernel_rfl) (by rfl) (hs.only (by repeat (first | exact Sel.nil | (apply Sel.cons; (repeat (first | exact Ext.here | apply Ext.there)))))) (fun w hs => Yl.not (by rfl)) ?_
        refine WA.donen (by kernel_rfl) ?_
        refine WC.condS (by rfl) (fun h4 => ?_) (fun h4 => ?_)
        ·
          replace h4 := not_eq_true h4
          replace h4 := of_decide_eq_false h4
          refine WC.seq ?_
          refine WL.p (by rfl) (Yl.assign (by rfl)) ?_
          refine WL.next ?_
          refine WC.ret ?_
          refine At.thenret ?_
          refine fin1' rfl (by rfl) ?_
          refine RetP.mk hs ?_
          try simp only [hx2, hx3, hx5] at h1
          try simp only [hx2, hx3, hx5] at h2
          try simp only [hx2, hx3, hx5] at h3
          try simp only [hx2, hx3, hx5] at h4
          all_goals (first | (simp only [hx2, hx3, hx5]; done) | simp_all)
        ·
          replace h4 := not_eq_false h4
          replace h4 := of_decide_eq_true h4
          refine WC.skipn ?_
          refine WC.seq ?_
          refine WL.p (by rfl) (Yl.assign (by rfl)) ?_
          refine WL.next ?_
          refine WC.ret ?_
          refine fin1' rfl (by rfl) ?_
          refine RetP.mk hs ?_
          try simp only [hx2, hx3, hx5] at h1
          try simp only [hx2, hx3, hx5] at h2
          try simp only [hx2, hx3, hx5] at h3
          try simp only [hx2, hx3, hx5] at h4
          all_goals (first | (simp only [hx2, hx3, hx5]; done) | simp_all)

theorem c_laws_FnExactEqualPolicies (aA : PPolicy) (aB : PPolicy) (w : World) (h_aA : Ph.ok w aA) (h_aB : Ph.ok w aB)  : Calls Try.prog 9 [.agg #[Bo aA.set, Sl.v aA.scripts, Sl.v aA.styles, Sl.v aA.images, S aA.nonce], .agg #[Bo aB.set, Sl.v aB.scripts, Sl.v aB.styles, Sl.v aB.images, S aB.nonce]].toArray w (RetP w (Bo true)) := by
  refine enterN 45 Try.func9 rfl rfl rfl ?_
  have hs := Sat.start w
  refine WC.seq ?_
  refine WL.r (by rfl) (Yr.box hs (by rfl) (by rfl)) ?_
  clear hs; rintro _ w ⟨b1, rfl, hb, hs⟩; clear hb
  refine WL.r (by rfl) (Yr.box hs (by rfl) (by rfl)) ?_
  clear hs; rintro _ w ⟨b2, rfl, hb, hs⟩; clear hb
  refine WL.p (by rfl) (Yl.assign (by rfl)) ?_
  refine WL.next ?_
  refine WC.seq ?_
  refine WL.p (by rfl) (Yl.assign (by rfl)) ?_
  refine WL.next ?_
  refine WC.seq ?_
  refine WL.p (by rfl) (Yl.loadAB agg44 (by rfl) hs (by repeat (first | exact List.mem_cons_self | apply List.mem_cons_of_mem)) (by rfl) (by rfl)) ?_
  refine WL.p (by rfl) (Yl.move (by rfl)) ?_
  refine WL.callp hs (by rfl) (Yc.func (by rfl) fn26) (c_laws_szPolicy _ _ _ ⟨(Ph.old h_aA.set hs), (Ph.old h_aA.scripts hs), (Ph.old h_aA.styles hs), (Ph.old h_aA.images hs), (Ph.old h_aA.nonce hs)⟩ (by first | assumption | omega | (simp only [lsz] at *; omega) | (simp only [lsz, strsz, TPolicy.size, TCache.size, TAddr.size, TRequest.size, TEntry.size, TResponse.size, TLine.size] at *; omega)) (by first | assumption | omega | (simp only [lsz] at *; omega) | (simp only [lsz, strsz, TPolicy.size, TCache.size, TAddr.size, TRequest.size, TEntry.size, TResponse.size, TLine.size] at *; omega))) ?_
  clear hs; intro w hs
  refine WL.p (by rfl) (Yl.assign (by rfl)) ?_
  refine WL.next ?_
  refine WC.seq' ?_
  refine WC.seq ?_
  refine WL.p (by rfl) (Yl.move (by rfl)) ?_
  refine WL.p (by rfl) (Yl.lss (by rfl) (by rfl)) ?_
  refine WL.next ?_
  refine WC.condS (by rfl) (fun h1 => ?_) (fun h1 => ?_)
  ·
    replace h1 := lessN_neg (of_decide_eq_true h1)
    refine WC.seq ?_
    refine WL.p (by rfl) (Yl.assign (by rfl)) ?_
    refine WL.next ?_
    refine WC.ret ?_
    refine At.thenret ?_
    refine fin1' rfl (by rfl) ?_
    refine RetP.mk hs ?_
    simp_all
  ·
    replace h1 := lessN_nn (by omega) (of_decide_eq_false h1)
    refine WC.skipn ?_
    refine WC.seq ?_
    refine WL.p (by rfl) (Yl.loadAB agg44 (by rfl) hs (by repeat (first | exact List.mem_cons_self | apply List.mem_cons_of_mem)) (by rfl) (by rfl)) ?_
    refine WL.p (by rfl) (Yl.move (by rfl)) ?_
    refine WL.callp hs (by rfl) (Yc.func (by rfl) fn26) (c_laws_szPolicy _ _ _ ⟨(Ph.old h_aB.set hs), (Ph.old h_aB.scripts hs), (Ph.old h_aB.styles hs), (Ph.old h_aB.images hs), (Ph.old h_aB.nonce hs)⟩ (by first | assumption | omega | (simp only [lsz] at *; omega) | (simp only [lsz, strsz, TPolicy.size, TCache.size, TAddr.size, TRequest.size, TEntry.size, TResponse.size, TLine.size] at *; omega)) (by first | assumption | omega | (simp only [lsz] at *; omega) | (simp only [lsz, strsz, TPolicy.size, TCache.size, TAddr.size, TRequest.size, TEntry.size, TResponse.size, TLine.size] at *; omega))) ?_
    clear hs; intro w hs
    refine WL.p (by rfl) (Yl.assign (by rfl)) ?_
    refine WL.next ?_
    refine WC.seq' ?_
    refine WC.seq ?_
    refine WL.p (by rfl) (Yl.move (by rfl)) ?_
    refine WL.p (by rfl) (Yl.lss (by rfl) (by rfl)) ?_
    refine WL.next ?_
    refine WC.condS (by rfl) (fun h2 => ?_) (fun h2 => ?_)
    ·
      replace h2 := lessN_neg (of_decide_eq_true h2)
      refine WC.seq ?_
      refine WL.p (by rfl) (Yl.assign (by rfl)) ?_
      refine WL.next ?_
      refine WC.ret ?_
      refine At.thenret ?_
      refine fin1' rfl (by rfl) ?_
      refine RetP.mk hs ?_
      simp_all
    ·
      replace h2 := lessN_nn (by omega) (of_decide_eq_false h2)
      refine WC.skipn ?_
      refine WC.anyn mixed hs ?_
      clear hs; intro w hs
      refine WA.p (i := 0) (by rfl) (by kernel_rfl) (by kernel_rfl) (by kernel_rfl) (by rfl) (hs.only (by repeat (first | exact Sel.nil | (apply Sel.cons; (repeat (first | exact Ext.here | apply Ext.there)))))) (fun w hs => Yl.loadAB agg44 (by rfl) hs (by repeat (first | exact List.mem_cons_self | apply List.mem_cons_of_mem)) (by rfl) (by rfl)) ?_
      refine WA.p (i := 2) (by rfl) (by kernel_rfl) (by kernel_rfl) (by kernel_rfl) (by rfl) (hs.only (by repeat (first | exact Sel.nil | (apply Sel.cons; (repeat (first | exact Ext.here | apply Ext.there)))))) (fun w hs => Yl.loadAB agg44 (by rfl) hs (by repeat (first | exact List.mem_cons_self | apply List.mem_cons_of_mem)) (by rfl) (by rfl)) ?_
      refine WA.call2 (i := 1) hs (fun _ hs => hs.only (by repeat (first | exact Sel.nil | (apply Sel.cons; (repeat (first | exact Ext.here | apply Ext.there)))))) (by kernel_rfl) (by rfl) (by rfl) (Yc.func (by rfl) fn28) (c_laws_toPolicy _ _ ⟨(Ph.old h_aA.set hs), (Ph.old h_aA.scripts hs), (Ph.old h_aA.styles hs), (Ph.old h_aA.images hs), (Ph.old h_aA.nonce hs)⟩ (by first | assumption | omega | (simp only [lsz] at *; omega) | (simp only [lsz, strsz, TPolicy.size, TCache.size, TAddr.size, TRequest.size, TEntry.size, TResponse.size, TLine.size] at *; omega))) ?_
      have hs0 := hs; clear hs; intro v w hb hR hs; clear hs
      obtain ⟨x3, rfl, hx3, hf3⟩ := hR
      obtain ⟨F3, hs⟩ := hf3.sat hs0 hb; clear hs0 hf3
      refine WA.call2 (i := 3) hs (fun _ hs => hs.only (by repeat (first | exact Sel.nil | (apply Sel.cons; (repeat (first | exact Ext.here | apply Ext.there)))))) (by kernel_rfl) (by rfl) (by rfl) (Yc.func (by rfl) fn28) (c_laws_toPolicy _ _ ⟨(Ph.old h_aB.set hs), (Ph.old h_aB.scripts hs), (Ph.old h_aB.styles hs), (Ph.old h_aB.images hs), (Ph.old h_aB.nonce hs)⟩ (by first | assumption | omega | (simp only [lsz] at *; omega) | (simp only [lsz, strsz, TPolicy.size, TCache.size, TAddr.size, TRequest.size, TEntry.size, TResponse.size, TLine.size] at *; omega))) ?_
      have hs0 := hs; clear hs; intro v w hb hR hs; clear hs
      obtain ⟨x4, rfl, hx4, hf4⟩ := hR
      obtain ⟨F4, hs⟩ := hf4.sat hs0 hb; clear hs0 hf4
      refine WA.callp2 (i := 4) hs (fun _ hs => hs.only (by repeat (first | exact Sel.nil | (apply Sel.cons; (repeat (first | exact Ext.here | apply Ext.there)))))) (by kernel_rfl) (by rfl) (by rfl) (Yc.func (by rfl) fn35) (c_spec_EqualPolicies _ _ _ (hs.okow (x := x3) (F := F3) (by repeat (first | exact List.mem_cons_self | apply List.mem_cons_of_mem))) (hs.okow (x := x4) (F := F4) (by repeat (first | exact List.mem_cons_self | apply List.mem_cons_of_mem)))) ?_
      clear hs; intro w hs
      refine WA.p (i := 5) (by rfl) (by kernel_rfl) (by kernel_rfl) (by kernel_rfl) (by rfl) (hs.only (by repeat (first | exact Sel.nil | (apply Sel.cons; (repeat (first | exact Ext.here | apply Ext.there)))))) (fun w hs => Yl.assign (by rfl)) ?_
      refine WA.donen (by kernel_rfl) ?_
      refine WC.seq ?_
      refine WL.p (by rfl) (Yl.loadAB agg44 (by rfl) hs (by repeat (first | exact List.mem_cons_self | apply List.mem_cons_of_mem)) (by rfl) (by rfl)) ?_
      refine WL.call hs (by rfl) (Yc.func (by rfl) fn28) (c_laws_toPolicy _ _ ⟨(Ph.old h_aA.set hs), (Ph.old h_aA.scripts hs), (Ph.old h_aA.styles hs), (Ph.old h_aA.images hs), (Ph.old h_aA.nonce hs)⟩ (by first | assumption | omega | (simp only [lsz] at *; omega) | (simp only [lsz, strsz, TPolicy.size, TCache.size, TAddr.size, TRequest.size, TEntry.size, TResponse.size, TLine.size] at *; omega))) ?_
      have hs0 := hs; clear hs; intro v w hb hR hs; clear hs
      obtain ⟨x5, rfl, hx5, hf5⟩ := hR
      obtain ⟨F5, hs⟩ := hf5.sat hs0 hb; clear hs0 hf5
      refine WL.r (by rfl) (Yr.alloc hs zt47) ?_
      clear hs; rintro _ w ⟨b6, rfl, hb, hs⟩; clear hb
      refine WL.s (Yr.storeB hs (by rfl) (by rfl) (by rfl) (by repeat (first | exact Repl.here | apply Repl.there)) (by repeat (first | (apply SetAt.here; repeat (first | exact Over.nil | apply Over.cons)) | apply SetAt.there)) (by rfl) (by exact szf47)) ?_
      clear hs; rintro _ w hs
      refine WL.next ?_
      refine WC.seq ?_
      refine WL.p (by rfl) (Yl.loadAB agg44 (by rfl) hs (by repeat (first | exact List.mem_cons_self | apply List.mem_cons_of_mem)) (by rfl) (by rfl)) ?_
      refine WL.call hs (by rfl) (Yc.func (by rfl) fn28) (c_laws_toPolicy _ _ ⟨(Ph.old h_aB.set hs), (Ph.old h_aB.scripts hs), (Ph.old h_aB.styles hs), (Ph.old h_aB.images hs), (Ph.old h_aB.nonce hs)⟩ (by first | assumption | omega | (simp only [lsz] at *; omega) | (simp only [lsz, strsz, TPolicy.size, TCache.size, TAddr.size, TRequest.size, TEntry.size, TResponse.size, TLine.size] at *; omega))) ?_
      have hs0 := hs; clear hs; intro v w hb hR hs; clear hs
      obtain ⟨x7, rfl, hx7, hf7⟩ := hR
      obtain ⟨F7, hs⟩ := hf7.sat hs0 hb; clear hs0 hf7
      refine WL.r (by rfl) (Yr.alloc hs zt47) ?_
      clear hs; rintro _ w ⟨b8, rfl, hb, hs⟩; clear hb
      refine WL.s (Yr.storeB hs (by rfl) (by rfl) (by rfl) (by repeat (first | exact Repl.here | apply Repl.there)) (by repeat (first | (apply SetAt.here; repeat (first | exact Over.nil | apply Over.cons)) | apply SetAt.there)) (by rfl) (by exact szf47)) ?_
      clear hs; rintro _ w hs
      refine WL.next ?_
      refine WC.seq ?_
      refine WL.p (by rfl) (Yl.loadAB agg47 (by rfl) hs (by repeat (first | exact List.mem_cons_self | apply List.mem_cons_of_mem)) (by rfl) (by rfl)) ?_
      refine WL.p (by rfl) (Yl.loadAB agg47 (by rfl) hs (by repeat (first | exact List.mem_cons_self | apply List.mem_cons_of_mem)) (by rfl) (by rfl)) ?_
      refine WL.callp hs (by rfl) (Yc.func (by rfl) fn36) (c_impl_EqualPolicies _ _ _ ⟨(hs.okow (x := x5) (F := F5) (by repeat (first | exact List.mem_cons_self | apply List.mem_cons_of_mem))).set, (hs.okow (x := x5) (F := F5) (by repeat (first | exact List.mem_cons_self | apply List.mem_cons_of_mem))).scripts, (hs.okow (x := x5) (F := F5) (by repeat (first | exact List.mem_cons_self | apply List.mem_cons_of_mem))).styles, (hs.okow (x := x5) (F := F5) (by repeat (first | exact List.mem_cons_self | apply List.mem_cons_of_mem))).images, (hs.okow (x := x5) (F := F5) (by repeat (first | exact List.mem_cons_self | apply List.mem_cons_of_mem))).nonce⟩ ⟨(hs.okow (x := x7) (F := F7) (by repeat (first | exact List.mem_cons_self | apply List.mem_cons_of_mem))).set, (hs.okow (x := x7) (F := F7) (by repeat (first | exact List.mem_cons_self | apply List.mem_cons_of_mem))).scripts, (hs.okow (x := x7) (F := F7) (by repeat (first | exact List.mem_cons_self | apply List.mem_cons_of_mem))).styles, (hs.okow (x := x7) (F := F7) (by repeat (first | exact List.mem_cons_self | apply List.mem_cons_of_mem))).images, (hs.okow (x := x7) (F := F7) (by repeat (first | exact List.mem_cons_self | apply List.mem_cons_of_mem))).nonce⟩) ?_
      clear hs; intro w hs
      refine WL.p (by rfl) (Yl.assign (by rfl)) ?_
      refine WL.next ?_
      refine WC.seq' ?_
      refine WC.seq ?_
      refine WL.p (by rfl) (Yl.move (by rfl)) ?_
      refine WL.p (by rfl) (Yl.move (by rfl)) ?_
      refine WL.p (by rfl) (Yl.neb bool4 (by rfl) (by rfl)) ?_
      refine WL.next ?_
      refine WC.condS (by rfl) (fun h3 => ?_) (fun h3 => ?_)
      ·
        replace h3 := not_eq_true h3
        replace h3 := beq_false h3
        refine WC.seq ?_
        refine WL.p (by rfl) (Yl.assign (by rfl)) ?_
        refine WL.next ?_
        refine WC.ret ?_
        refine At.thenret ?_
        refine fin1' rfl (by rfl) ?_
        refine RetP.mk hs ?_
        try simp only [hx3, hx4, hx5, hx7] at h1
        try simp only [hx3, hx4, hx5, hx7] at h2
        try simp only [hx3, hx4, hx5, hx7] at h3
        all_goals (first | (simp only [hx3, hx4, hx5, hx7]; done) | simp_all)
      ·
        replace h3 := not_eq_false h3
        replace h3 := beq_true h3
        refine WC.skipn ?_
        refine WC.seq' ?_
        refine WC.anyn mixed hs ?_
        clear hs; intro w hs
        refine WA.p (i := 0) (by rfl) (by kernel_rfl) (by kernel_rfl) (by kernel_rfl) (by rfl) (hs.only (by repeat (first | exact Sel.nil | (apply Sel.cons; (repeat (first | exact Ext.here | apply Ext.there)))))) (fun w hs => Yl.loadAB agg47 (by rfl) hs (by repeat (first | exact List.mem_cons_self | apply List.mem_cons_of_mem)) (by rfl) (by rfl)) ?_
        refine WA.p (i := 1) (by rfl) (by kernel_rfl) (by kernel_rfl) (by kernel_rfl) (by rfl) (hs.only (by repeat (first | exact Sel.nil | (apply Sel.cons; (repeat (first | exact Ext.here | apply Ext.there)))))) (fun w hs => Yl.loadAB agg44 (by rfl) hs (by repeat (first | exact List.mem_cons_self | apply List.mem_cons_of_mem)) (by rfl) (by rfl)) ?_
        refine WA.call2 (i := 2) hs (fun _ hs => hs.only (by repeat (first | exact Sel.nil | (apply Sel.cons; (repeat (first | exact Ext.here | apply Ext.there)))))) (by kernel_rfl) (by rfl) (by rfl) (Yc.func (by rfl) fn28) (c_laws_toPolicy _ _ ⟨(Ph.old h_aA.set hs), (Ph.old h_aA.scripts hs), (Ph.old h_aA.styles hs), (Ph.old h_aA.images hs), (Ph.old h_aA.nonce hs)⟩ (by first | assumption | omega | (simp only [lsz] at *; omega) | (simp only [lsz, strsz, TPolicy.size, TCache.size, TAddr.size, TRequest.size, TEntry.size, TResponse.size, TLine.size] at *; omega))) ?_
        have hs0 := hs; clear hs; intro v w hb hR hs; clear hs
        obtain ⟨x9, rfl, hx9, hf9⟩ := hR
        obtain ⟨F9, hs⟩ := hf9.sat hs0 hb; clear hs0 hf9
        refine WA.callp2 (i := 3) hs (fun _ hs => hs.only (by repeat (first | exact Sel.nil | (apply Sel.cons; (repeat (first | exact Ext.here | apply Ext.there)))))) (by kernel_rfl) (by rfl) (by rfl) (Yc.func (by rfl) fn30) (c_laws_eqPolicy _ _ _ ⟨(hs.okow (x := x5) (F := F5) (by repeat (first | exact List.mem_cons_self | apply List.mem_cons_of_mem))).set, (hs.okow (x := x5) (F := F5) (by repeat (first | exact List.mem_cons_self | apply List.mem_cons_of_mem))).scripts, (hs.okow (x := x5) (F := F5) (by repeat (first | exact List.mem_cons_self | apply List.mem_cons_of_mem))).styles, (hs.okow (x := x5) (F := F5) (by repeat (first | exact List.mem_cons_self | apply List.mem_cons_of_mem))).images, (hs.okow (x := x5) (F := F5) (by repeat (first | exact List.mem_cons_self | apply List.mem_cons_of_mem))).nonce⟩ (hs.okow (x := x9) (F := F9) (by repeat (first | exact List.mem_cons_self | apply List.mem_cons_of_mem)))) ?_
        clear hs; intro w hs
        refine WA.p (i := 4) (by rfl) (by kernel_rfl) (by kernel_rfl) (by kernel_rfl) (by rfl) (hs.only (by repeat (first | exact Sel.nil | (apply Sel.cons; (repeat (first | exact Ext.here | apply Ext.there)))))) (fun w hs => Yl.not (by rfl)) ?_
        refine WA.donen (by kernel_rfl) ?_
        refine WC.condS (by rfl) (fun h4 => ?_) (fun h4 => ?_)
        ·
          replace h4 := not_eq_true h4
          replace h4 := of_decide_eq_false h4
          refine WC.seq ?_
          refine WL.p (by rfl) (Yl.assign (by rfl)) ?_
          refine WL.next ?_
          refine WC.ret ?_
          refine At.thenret ?_
          refine fin1' rfl (by rfl) ?_
          refine RetP.mk hs ?_
          try simp only [hx3, hx4, hx5, hx7, hx9] at h1
          try simp only [hx3, hx4, hx5, hx7, hx9] at h2
          try simp only [hx3, hx4, hx5, hx7, hx9] at h3
          try simp only [hx3, hx4, hx5, hx7, hx9] at h4
          all_goals (first | (simp only [hx3, hx4, hx5, hx7, hx9]; done) | simp_all)
        ·
          replace h4 := not_eq_false h4
          replace h4 := of_decide_eq_true h4
          refine WC.skipn ?_
          refine WC.seq' ?_
          refine WC.anyn mixed hs ?_
          clear hs; intro w hs
          refine WA.p (i := 0) (by rfl) (by kernel_rfl) (by kernel_rfl) (by kernel_rfl) (by rfl) (hs.only (by repeat (first | exact Sel.nil | (apply Sel.cons; (repeat (first | exact Ext.here | apply Ext.there)))))) (fun w hs => Yl.loadAB agg47 (by rfl) hs (by repeat (first | exact List.mem_cons_self | apply List.mem_cons_of_mem)) (by rfl) (by rfl)) ?_
          refine WA.p (i := 1) (by rfl) (by kernel_rfl) (by kernel_rfl) (by kernel_rfl) (by rfl) (hs.only (by repeat (first | exact Sel.nil | (apply Sel.cons; (repeat (first | exact Ext.here | apply Ext.there)))))) (fun w hs => Yl.loadAB agg44 (by rfl) hs (by repeat (first | exact List.mem_cons_self | apply List.mem_cons_of_mem)) (by rfl) (by rfl)) ?_
          refine WA.call2 (i := 2) hs (fun _ hs => hs.only (by repeat (first | exact Sel.nil | (apply Sel.cons; (repeat (first | exact Ext.here | apply Ext.there)))))) (by kernel_rfl) (by rfl) (by rfl) (Yc.func (by rfl) fn28) (c_laws_toPolicy _ _ ⟨(Ph.old h_aB.set hs), (Ph.old h_aB.scripts hs), (Ph.old h_aB.styles hs), (Ph.old h_aB.images hs), (Ph.old h_aB.nonce hs)⟩ (by first | assumption | omega | (simp only [lsz] at *; omega) | (simp only [lsz, strsz, TPolicy.size, TCache.size, TAddr.size, TRequest.size, TEntry.size, TResponse.size, TLine.size] at *; omega))) ?_
          have hs0 := hs; clear hs; intro v w hb hR hs; clear hs
          obtain ⟨x10, rfl, hx10, hf10⟩ := hR
          obtain ⟨F10, hs⟩ := hf10.sat hs0 hb; clear hs0 hf10
          refine WA.callp2 (i := 3) hs (fun _ hs => hs.only (by repeat (first | exact Sel.nil | (apply Sel.cons; (repeat (first | exact Ext.here | apply Ext.there)))))) (by kernel_rfl) (by rfl) (by rfl) (Yc.func (by rfl) fn30) (c_laws_eqPolicy _ _ _ ⟨(hs.okow (x := x7) (F := F7) (by repeat (first | exact List.mem_cons_self | apply List.mem_cons_of_mem))).set, (hs.okow (x := x7) (F := F7) (by repeat (first | exact List.mem_cons_self | apply List.mem_cons_of_mem))).scripts, (hs.okow (x := x7) (F := F7) (by repeat (first | exact List.mem_cons_self | apply List.mem_cons_of_mem))).styles, (hs.okow (x := x7) (F := F7) (by repeat (first | exact List.mem_cons_self | apply List.mem_cons_of_mem))).images, (hs.okow (x := x7) (F := F7) (by repeat (first | exact List.mem_cons_self | apply List.mem_cons_of_mem))).nonce⟩ (hs.okow (x := x10) (F := F10) (by repeat (first | exact List.mem_cons_self | apply List.mem_cons_of_mem)))) ?_
          clear hs; intro w hs
          refine WA.p (i := 4) (by rfl) (by kernel_rfl) (by kernel_rfl) (by kernel_rfl) (by rfl) (hs.only (by repeat (first | exact Sel.nil | (apply Sel.cons; (repeat (first | exact Ext.here | apply Ext.there)))))) (fun w hs => Yl.not (by rfl)) ?_
          refine WA.donen (by kernel_rfl) ?_
          refine WC.condS (by rfl) (fun h5 => ?_) (fun h5 => ?_)
          ·
            replace h5 := not_eq_true h5
            replace h5 := of_decide_eq_false h5
            refine WC.seq ?_
            refine WL.p (by rfl) (Yl.assign (by rfl)) ?_
            refine WL.next ?_
            refine WC.ret ?_
            refine At.thenret ?_
            refine fin1' rfl (by rfl) ?_
            refine RetP.mk hs ?_
            try simp only [hx3, hx4, hx5, hx7, hx9, hx10] at h1
            try simp only [hx3, hx4, hx5, hx7, hx9, hx10] at h2
            try simp only [hx3, hx4, hx5, hx7, hx9, hx10] at h3
            try simp only [hx3, hx4, hx5, hx7, hx9, hx10] at h4
            try simp only [hx3, hx4, hx5, hx7, hx9, hx10] at h5
            all_goals (first | (simp only [hx3, hx4, hx5, hx7, hx9, hx10]; done) | simp_all)
          ·
            replace h5 := not_eq_false h5
            replace h5 := of_decide_eq_true h5
            refine WC.skipn ?_
            refine WC.seq ?_
            refine WL.p (by rfl) (Yl.assign (by rfl)) ?_
            refine WL.next ?_
            refine WC.ret ?_
            refine fin1' rfl (by rfl) ?_
            refine RetP.mk hs ?_
            try simp only [hx3, hx4, hx5, hx7, hx9, hx10] at h1
            try simp only [hx3, hx4, hx5, hx7, hx9, hx10] at h2
            try simp only [hx3, hx4, hx5, hx7, hx9, hx10] at h3
            try simp only [hx3, hx4, hx5, hx7, hx9, hx10] at h4
            try simp only [hx3, hx4, hx5, hx7, hx9, hx10] at h5
            all_goals (first | (simp only [hx3, hx4, hx5, hx7, hx9, hx10]; done) | simp_all)

theorem c_laws_FnExactAllows (aP : PPolicy) (aKind : Int) (aHost : Str) (w : World) (h_aP : Ph.ok w aP)  : Calls Try.prog 10 [.agg #[Bo aP.set, Sl.v aP.scripts, Sl.v aP.styles, Sl.v aP.images, S aP.nonce], I aKind, S aHost].toArray w (RetP w (Bo true)) := by
  refine enterN 38 Try.func10 rfl rfl rfl ?_
  have hs := Sat.start w
  refine WC.seq ?_
  refine WL.r (by rfl) (Yr.box hs (by rfl) (by rfl)) ?_
  clear hs; rintro _ w ⟨b1, rfl, hb, hs⟩; clear hb
  refine WL.p (by rfl) (Yl.assign (by rfl)) ?_
  refine WL.next ?_
  refine WC.seq' ?_
  refine WC.seq ?_
  refine WL.p (by rfl) (Yl.move (by rfl)) ?_
  refine WL.p (by rfl) (Yl.len_str str9 (by rfl)) ?_
  refine WL.p (by rfl) (Yl.gtr (by rfl) (by rfl)) ?_
  refine WL.next ?_
  refine WC.condS (by rfl) (fun h1 => ?_) (fun h1 => ?_)
  ·
    replace h1 := of_decide_eq_true h1
    refine WC.seq ?_
    refine WL.p (by rfl) (Yl.assign (by rfl)) ?_
    refine WL.next ?_
    refine WC.ret ?_
    refine At.thenret ?_
    refine fin1' rfl (by rfl) ?_
    refine RetP.mk hs ?_
    simp_all
  ·
    replace h1 := of_decide_eq_false h1
    refine WC.skipn ?_
    refine WC.seq ?_
    refine WL.p (by rfl) (Yl.assign (by rfl)) ?_
    refine WL.next ?_
    refine WC.seq ?_
    refine WL.p (by rfl) (Yl.loadAB agg44 (by rfl) hs (by repeat (first | exact List.mem_cons_self | apply List.mem_cons_of_mem)) (by rfl) (by rfl)) ?_
    refine WL.p (by rfl) (Yl.move (by rfl)) ?_
    refine WL.callp hs (by rfl) (Yc.func (by rfl) fn26) (c_laws_szPolicy _ _ _ ⟨(Ph.old h_aP.set hs), (Ph.old h_aP.scripts hs), (Ph.old h_aP.styles hs), (Ph.old h_aP.images hs), (Ph.old h_aP.nonce hs)⟩ (by first | assumption | omega | (simp only [lsz] at *; omega) | (simp only [lsz, strsz, TPolicy.size, TCache.size, TAddr.size, TRequest.size, TEntry.size, TResponse.size, TLine.size] at *; omega)) (by first | assumption | omega | (simp only [lsz] at *; omega) | (simp only [lsz, strsz, TPolicy.size, TCache.size, TAddr.size, TRequest.size, TEntry.size, TResponse.size, TLine.size] at *; omega))) ?_
    clear hs; intro w hs
    refine WL.p (by rfl) (Yl.assign (by rfl)) ?_
    refine WL.next ?_
    refine WC.seq' ?_
    refine WC.seq ?_
    refine WL.p (by rfl) (Yl.move (by rfl)) ?_
    refine WL.p (by rfl) (Yl.lss (by rfl) (by rfl)) ?_
    refine WL.next ?_
    refine WC.condS (by rfl) (fun h2 => ?_) (fun h2 => ?_)
    ·
      replace h2 := lessN_neg (of_decide_eq_true h2)
      refine WC.seq ?_
      refine WL.p (by rfl) (Yl.assign (by rfl)) ?_
      refine WL.next ?_
      refine WC.ret ?_
      refine At.thenret ?_
      refine fin1' rfl (by rfl) ?_
      refine RetP.mk hs ?_
      simp_all
    ·
      replace h2 := lessN_nn (by omega) (of_decide_eq_false h2)
      refine WC.skipn ?_
      refine WC.seq ?_
      refine WL.p (by rfl) (Yl.loadAB agg44 (by rfl) hs (by repeat (first | exact List.mem_cons_self | apply List.mem_cons_of_mem)) (by rfl) (by rfl)) ?_
      refine WL.call hs (by rfl) (Yc.func (by rfl) fn28) (c_laws_toPolicy _ _ ⟨(Ph.old h_aP.set hs), (Ph.old h_aP.scripts hs), (Ph.old h_aP.styles hs), (Ph.old h_aP.images hs), (Ph.old h_aP.nonce hs)⟩ (by first | assumption | omega | (simp only [lsz] at *; omega) | (simp only [lsz, strsz, TPolicy.size, TCache.size, TAddr.size, TRequest.size, TEntry.size, TResponse.size, TLine.size] at *; omega))) ?_
      have hs0 := hs; clear hs; intro v w hb hR hs; clear hs
      obtain ⟨x2, rfl, hx2, hf2⟩ := hR
      obtain ⟨F2, hs⟩ := hf2.sat hs0 hb; clear hs0 hf2
      refine WL.p (by rfl) (Yl.move (by rfl)) ?_
      refine WL.p (by rfl) (Yl.move (by rfl)) ?_
      refine WL.callp hs (by rfl) (Yc.func (by rfl) fn37) (c_spec_Allows _ _ _ _ (hs.okow (x := x2) (F := F2) (by repeat (first | exact List.mem_cons_self | apply List.mem_cons_of_mem)))) ?_
      clear hs; intro w hs
      refine WL.p (by rfl) (Yl.assign (by rfl)) ?_
      refine WL.next ?_
      refine WC.seq ?_
      refine WL.p (by rfl) (Yl.loadAB agg44 (by rfl) hs (by repeat (first | exact List.mem_cons_self | apply List.mem_cons_of_mem)) (by rfl) (by rfl)) ?_
      refine WL.call hs (by rfl) (Yc.func (by rfl) fn28) (c_laws_toPolicy _ _ ⟨(Ph.old h_aP.set hs), (Ph.old h_aP.scripts hs), (Ph.old h_aP.styles hs), (Ph.old h_aP.images hs), (Ph.old h_aP.nonce hs)⟩ (by first | assumption | omega | (simp only [lsz] at *; omega) | (simp only [lsz, strsz, TPolicy.size, TCache.size, TAddr.size, TRequest.size, TEntry.size, TResponse.size, TLine.size] at *; omega))) ?_
      have hs0 := hs; clear hs; intro v w hb hR hs; clear hs
      obtain ⟨x3, rfl, hx3, hf3⟩ := hR
      obtain ⟨F3, hs⟩ := hf3.sat hs0 hb; clear hs0 hf3
      refine WL.r (by rfl) (Yr.alloc hs zt47) ?_
      clear hs; rintro _ w ⟨b4, rfl, hb, hs⟩; clear hb
      refine WL.s (Yr.storeB hs (by rfl) (by rfl) (by rfl) (by repeat (first | exact Repl.here | apply Repl.there)) (by repeat (first | (apply SetAt.here; repeat (first | exact Over.nil | apply Over.cons)) | apply SetAt.there)) (by rfl) (by exact szf47)) ?_
      clear hs; rintro _ w hs
      refine WL.next ?_
      refine WC.seq ?_
      refine WL.p (by rfl) (Yl.loadAB agg47 (by rfl) hs (by repeat (first | exact List.mem_cons_self | apply List.mem_cons_of_mem)) (by rfl) (by rfl)) ?_
      refine WL.p (by rfl) (Yl.move (by rfl)) ?_
      refine WL.p (by rfl) (Yl.move (by rfl)) ?_
      refine WL.callp hs (by rfl) (Yc.func (by rfl) fn38) (c_impl_Allows _ _ _ _ ⟨(hs.okow (x := x3) (F := F3) (by repeat (first | exact List.mem_cons_self | apply List.mem_cons_of_mem))).set, (hs.okow (x := x3) (F := F3) (by repeat (first | exact List.mem_cons_self | apply List.mem_cons_of_mem))).scripts, (hs.okow (x := x3) (F := F3) (by repeat (first | exact List.mem_cons_self | apply List.mem_cons_of_mem))).styles, (hs.okow (x := x3) (F := F3) (by repeat (first | exact List.mem_cons_self | apply List.mem_cons_of_mem))).images, (hs.okow (x := x3) (F := F3) (by repeat (first | exact List.mem_cons_self | apply List.mem_cons_of_mem))).nonce⟩) ?_
      clear hs; intro w hs
      refine WL.p (by rfl) (Yl.assign (by rfl)) ?_
      refine WL.next ?_
      refine WC.seq' ?_
      refine WC.seq ?_
      refine WL.p (by rfl) (Yl.move (by rfl)) ?_
      refine WL.p (by rfl) (Yl.move (by rfl)) ?_
      refine WL.p (by rfl) (Yl.neb bool4 (by rfl) (by rfl)) ?_
      refine WL.next ?_
      refine WC.condS (by rfl) (fun h3 => ?_) (fun h3 => ?_)
      ·
        replace h3 := not_eq_true h3
        replace h3 := beq_false h3
        refine WC.seq ?_
        refine WL.p (by rfl) (Yl.assign (by rfl)) ?_
        refine WL.next ?_
        refine WC.ret ?_
        refine At.thenret ?_
        refine fin1' rfl (by rfl) ?_
        refine RetP.mk hs ?_
        try simp only [hx2, hx3] at h1
        try simp only [hx2, hx3] at h2
        try simp only [hx2, hx3] at h3
        all_goals (first | (simp only [hx2, hx3]; done) | simp_all)
      ·
        replace h3 := not_eq_false h3
        replace h3 := beq_true h3
        refine WC.skipn ?_
        refine WC.seq' ?_
        refine WC.anyn mixed hs ?_
        clear hs; intro w hs
        refine WA.p (i := 0) (by rfl) (by kernel_rfl) (by kernel_rfl) (by kernel_rfl) (by rfl) (hs.only (by repeat (first | exact Sel.nil | (apply Sel.cons; (repeat (first | exact Ext.here | apply Ext.there)))))) (fun w hs => Yl.loadAB agg47 (by rfl) hs (by repeat (first | exact List.mem_cons_self | apply List.mem_cons_of_mem)) (by rfl) (by rfl)) ?_
        refine WA.p (i := 1) (by rfl) (by kernel_rfl) (by kernel_rfl) (by kernel_rfl) (by rfl) (hs.only (by repeat (first | exact Sel.nil | (apply Sel.cons; (repeat (first | exact Ext.here | apply Ext.there)))))) (fun w hs => Yl.loadAB agg44 (by rfl) hs (by repeat (first | exact List.mem_cons_self | apply List.mem_cons_of_mem)) (by rfl) (by rfl)) ?_
        refine WA.call2 (i := 2) hs (fun _ hs => hs.only (by repeat (first | exact Sel.nil | (apply Sel.cons; (repeat (first | exact Ext.here | apply Ext.there)))))) (by kernel_rfl) (by rfl) (by rfl) (Yc.func (by rfl) fn28) (c_laws_toPolicy _ _ ⟨(Ph.old h_aP.set hs), (Ph.old h_aP.scripts hs), (Ph.old h_aP.styles hs), (Ph.old h_aP.images hs), (Ph.old h_aP.nonce hs)⟩ (by first | assumption | omega | (simp only [lsz] at *; omega) | (simp only [lsz, strsz, TPolicy.size, TCache.size, TAddr.size, TRequest.size, TEntry.size, TResponse.size, TLine.size] at *; omega))) ?_
        have hs0 := hs; clear hs; intro v w hb hR hs; clear hs
        obtain ⟨x5, rfl, hx5, hf5⟩ := hR
        obtain ⟨F5, hs⟩ := hf5.sat hs0 hb; clear hs0 hf5
        refine WA.callp2 (i := 3) hs (fun _ hs => hs.only (by repeat (first | exact Sel.nil | (apply Sel.cons; (repeat (first | exact Ext.here | apply Ext.there)))))) (by kernel_rfl) (by rfl) (by rfl) (Yc.func (by rfl) fn30) (c_laws_eqPolicy _ _ _ ⟨(hs.okow (x := x3) (F := F3) (by repeat (first | exact List.mem_cons_self | apply List.mem_cons_of_mem))).set, (hs.okow (x := x3) (F := F3) (by repeat (first | exact List.mem_cons_self | apply List.mem_cons_of_mem))).scripts, (hs.okow (x := x3) (F := F3) (by repeat (first | exact List.mem_cons_self | apply List.mem_cons_of_mem))).styles, (hs.okow (x := x3) (F := F3) (by repeat (first | exact List.mem_cons_self | apply List.mem_cons_of_mem))).images, (hs.okow (x := x3) (F := F3) (by repeat (first | exact List.mem_cons_self | apply List.mem_cons_of_mem))).nonce⟩ (hs.okow (x := x5) (F := F5) (by repeat (first | exact List.mem_cons_self | apply List.mem_cons_of_mem)))) ?_
        clear hs; intro w hs
        refine WA.p (i := 4) (by rfl) (by kernel_rfl) (by kernel_rfl) (by kernel_rfl) (by rfl) (hs.only (by repeat (first | exact Sel.nil | (apply Sel.cons; (repeat (first | exact Ext.here | apply Ext.there)))))) (fun w hs => Yl.not (by rfl)) ?_
        refine WA.donen (by kernel_rfl) ?_
        refine WC.condS (by rfl) (fun h4 => ?_) (fun h4 => ?_)
        ·
          replace h4 := not_eq_true h4
          replace h4 := of_decide_eq_false h4
          refine WC.seq ?_
          refine WL.p (by rfl) (Yl.assign (by rfl)) ?_
          refine WL.next ?_
          refine WC.ret ?_
          refine At.thenret ?_
          refine fin1' rfl (by rfl) ?_
          refine RetP.mk hs ?_
          try simp only [hx2, hx3, hx5] at h1
          try simp only [hx2, hx3, hx5] at h2
          try simp only [hx2, hx3, hx5] at h3
          try simp only [hx2, hx3, hx5] at h4
          all_goals (first | (simp only [hx2, hx3, hx5]; done) | simp_all)
        ·
          replace h4 := not_eq_false h4
          replace h4 := of_decide_eq_true h4
          refine WC.skipn ?_
          refine WC.seq ?_
          refine WL.p (by rfl) (Yl.assign (by rfl)) ?_
          refine WL.next ?_
          refine WC.ret ?_
          refine fin1' rfl (by rfl) ?_
          refine RetP.mk hs ?_
          try simp only [hx2, hx3, hx5] at h1
          try simp only [hx2, hx3, hx5] at h2
          try simp only [hx2, hx3, hx5] at h3
          try simp only [hx2, hx3, hx5] at h4
          all_goals (first | (simp only [hx2, hx3, hx5]; done) | simp_all)

theorem c_laws_FnExactIsPolicy (aP : PPolicy) (w : World) (h_aP : Ph.ok w aP)  : Calls Try.prog 11 [.agg #[Bo aP.set, Sl.v aP.scripts, Sl.v aP.styles, Sl.v aP.images, S aP.nonce]].toArray w (RetP w (Bo true)) := by
  refine enterN 27 Try.func11 rfl rfl rfl ?_
  have hs := Sat.start w
  refine WC.seq ?_
  refine WL.r (by rfl) (Yr.box hs (by rfl) (by rfl)) ?_
  clear hs; rintro _ w ⟨b1, rfl, hb, hs⟩; clear hb
  refine WL.p (by rfl) (Yl.assign (by rfl)) ?_
  refine WL.next ?_
  refine WC.seq ?_
  refine WL.p (by rfl) (Yl.assign (by rfl)) ?_
  refine WL.next ?_
  refine WC.seq ?_
  refine WL.p (by rfl) (Yl.loadAB agg44 (by rfl) hs (by repeat (first | exact List.mem_cons_self | apply List.mem_cons_of_mem)) (by rfl) (by rfl)) ?_
  refine WL.p (by rfl) (Yl.move (by rfl)) ?_
  refine WL.callp hs (by rfl) (Yc.func (by rfl) fn26) (c_laws_szPolicy _ _ _ ⟨(Ph.old h_aP.set hs), (Ph.old h_aP.scripts hs), (Ph.old h_aP.styles hs), (Ph.old h_aP.images hs), (Ph.old h_aP.nonce hs)⟩ (by first | assumption | omega | (simp only [lsz] at *; omega) | (simp only [lsz, strsz, TPolicy.size, TCache.size, TAddr.size, TRequest.size, TEntry.size, TResponse.size, TLine.size] at *; omega)) (by first | assumption | omega | (simp only [lsz] at *; omega) | (simp only [lsz, strsz, TPolicy.size, TCache.size, TAddr.size, TRequest.size, TEntry.size, TResponse.size, TLine.size] at *; omega))) ?_
  clear hs; intro w hs
  refine WL.p (by rfl) (Yl.assign (by rfl)) ?_
  refine WL.next ?_
  refine WC.seq' ?_
  refine WC.seq ?_
  refine WL.p (by rfl) (Yl.move (by rfl)) ?_
  refine WL.p (by rfl) (Yl.lss (by rfl) (by rfl)) ?_
  refine WL.next ?_
  refine WC.condS (by rfl) (fun h1 => ?_) (fun h1 => ?_)
  ·
    replace h1 := lessN_neg (of_decide_eq_true h1)
    refine WC.seq ?_
    refine WL.p (by rfl) (Yl.assign (by rfl)) ?_
    refine WL.next ?_
    refine WC.ret ?_
    refine At.thenret ?_
    refine fin1' rfl (by rfl) ?_
    refine RetP.mk hs ?_
    simp_all
  ·
    replace h1 := lessN_nn (by omega) (of_decide_eq_false h1)
    refine WC.skipn ?_
    refine WC.seq ?_
    refine WL.p (by rfl) (Yl.loadAB agg44 (by rfl) hs (by repeat (first | exact List.mem_cons_self | apply List.mem_cons_of_mem)) (by rfl) (by rfl)) ?_
    refine WL.call hs (by rfl) (Yc.func (by rfl) fn28) (c_laws_toPolicy _ _ ⟨(Ph.old h_aP.set hs), (Ph.old h_aP.scripts hs), (Ph.old h_aP.styles hs), (Ph.old h_aP.images hs), (Ph.old h_aP.nonce hs)⟩ (by first | assumption | omega | (simp only [lsz] at *; omega) | (simp only [lsz, strsz, TPolicy.size, TCache.size, TAddr.size, TRequest.size, TEntry.size, TResponse.size, TLine.size] at *; omega))) ?_
    have hs0 := hs; clear hs; intro v w hb hR hs; clear hs
    obtain ⟨x2, rfl, hx2, hf2⟩ := hR
    obtain ⟨F2, hs⟩ := hf2.sat hs0 hb; clear hs0 hf2
    refine WL.callp hs (by rfl) (Yc.func (by rfl) fn39) (c_spec_IsPolicy _ _ (hs.okow (x := x2) (F := F2) (by repeat (first | exact List.mem_cons_self | apply List.mem_cons_of_mem)))) ?_
    clear hs; intro w hs
    refine WL.p (by rfl) (Yl.assign (by rfl)) ?_
    refine WL.next ?_
    refine WC.seq ?_
    refine WL.p (by rfl) (Yl.loadAB agg44 (by rfl) hs (by repeat (first | exact List.mem_cons_self | apply List.mem_cons_of_mem)) (by rfl) (by rfl)) ?_
    refine WL.call hs (by rfl) (Yc.func (by rfl) fn28) (c_laws_toPolicy _ _ ⟨(Ph.old h_aP.set hs), (Ph.old h_aP.scripts hs), (Ph.old h_aP.styles hs), (Ph.old h_aP.images hs), (Ph.old h_aP.nonce hs)⟩ (by first | assumption | omega | (simp only [lsz] at *; omega) | (simp only [lsz, strsz, TPolicy.size, TCache.size, TAddr.size, TRequest.size, TEntry.size, TResponse.size, TLine.size] at *; omega))) ?_
    have hs0 := hs; clear hs; intro v w hb hR hs; clear hs
    obtain ⟨x3, rfl, hx3, hf3⟩ := hR
    obtain ⟨F3, hs⟩ := hf3.sat hs0 hb; clear hs0 hf3
    refine WL.r (by rfl) (Yr.alloc hs zt47) ?_
    clear hs; rintro _ w ⟨b4, rfl, hb, hs⟩; clear hb
    refine WL.s (Yr.storeB hs (by rfl) (by rfl) (by rfl) (by repeat (first | exact Repl.here | apply Repl.there)) (by repeat (first | (apply SetAt.here; repeat (first | exact Over.nil | apply Over.cons)) | apply SetAt.there)) (by rfl) (by exact szf47)) ?_
    clear hs; rintro _ w hs
    refine WL.next ?_
    refine WC.seq ?_
    refine WL.p (by rfl) (Yl.loadAB agg47 (by rfl) hs (by repeat (first | exact List.mem_cons_self | apply List.mem_cons_of_mem)) (by rfl) (by rfl)) ?_
    refine WL.callp hs (by rfl) (Yc.func (by rfl) fn40) (c_impl_IsPolicy _ _ ⟨(hs.okow (x := x3) (F := F3) (by repeat (first | exact List.mem_cons_self | apply List.mem_cons_of_mem))).set, (hs.okow (x := x3) (F := F3) (by repeat (first | exact List.mem_cons_self | apply List.mem_cons_of_mem))).scripts, (hs.okow (x := x3) (F := F3) (by repeat (first | exact List.mem_cons_self | apply List.mem_cons_of_mem))).styles, (hs.okow (x := x3) (F := F3) (by repeat (first | exact List.mem_cons_self | apply List.mem_cons_of_mem))).images, (hs.okow (x := x3) (F := F3) (by repeat (first | exact List.mem_cons_self | apply List.mem_cons_of_mem))).nonce⟩) ?_
    clear hs; intro w hs
    refine WL.p (by rfl) (Yl.assign (by rfl)) ?_
    refine WL.next ?_
    refine WC.seq' ?_
    refine WC.seq ?_
    refine WL.p (by rfl) (Yl.move (by rfl)) ?_
    refine WL.p (by rfl) (Yl.move (by rfl)) ?_
    refine WL.p (by rfl) (Yl.neb bool4 (by rfl) (by rfl)) ?_
    refine WL.next ?_
    refine WC.condS (by rfl) (fun h2 => ?_) (fun h2 => ?_)
    ·
      replace h2 := not_eq_true h2
      replace h2 := beq_false h2
      refine WC.seq ?_
      refine WL.p (by rfl) (Yl.assign (by rfl)) ?_
      refine WL.next ?_
      refine WC.ret ?_
      refine At.thenret ?_
      refine fin1' rfl (by rfl) ?_
      refine RetP.mk hs ?_
      try simp only [hx2, hx3] at h1
      try simp only [hx2, hx3] at h2
      all_goals (first | (simp only [hx2, hx3]; done) | simp_all)
    ·
      replace h2 := not_eq_false h2
      replace h2 := beq_true h2
      refine WC.skipn ?_
      refine WC.seq' ?_
      refine WC.anyn mixed hs ?_
      clear hs; intro w hs
      refine WA.p (i := 0) (by rfl) (by kernel_rfl) (by kernel_rfl) (by kernel_rfl) (by rfl) (hs.only (by repeat (first | exact Sel.nil | (apply Sel.cons; (repeat (first | exact Ext.here | apply Ext.there)))))) (fun w hs => Yl.loadAB agg47 (by rfl) hs (by repeat (first | exact List.mem_cons_self | apply List.mem_cons_of_mem)) (by rfl) (by rfl)) ?_
      refine WA.p (i := 1) (by rfl) (by kernel_rfl) (by kernel_rfl) (by kernel_rfl) (by rfl) (hs.only (by repeat (first | exact Sel.nil | (apply Sel.cons; (repeat (first | exact Ext.here | apply Ext.there)))))) (fun w hs => Yl.loadAB agg44 (by rfl) hs (by repeat (first | exact List.mem_cons_self | apply List.mem_cons_of_mem)) (by rfl) (by rfl)) ?_
      refine WA.call2 (i := 2) hs (fun _ hs => hs.only (by repeat (first | exact Sel.nil | (apply Sel.cons; (repeat (first | exact Ext.here | apply Ext.there)))))) (by kernel_rfl) (by rfl) (by rfl) (Yc.func (by rfl) fn28) (c_laws_toPolicy _ _ ⟨(Ph.old h_aP.set hs), (Ph.old h_aP.scripts hs), (Ph.old h_aP.styles hs), (Ph.old h_aP.images hs), (Ph.old h_aP.nonce hs)⟩ (by first | assumption | omega | (simp only [lsz] at *; omega) | (simp only [lsz, strsz, TPolicy.size, TCache.size, TAddr.size, TRequest.size, TEntry.size, TResponse.size, TLine.size] at *; omega))) ?_
      have hs0 := hs; clear hs; intro v w hb hR hs; clear hs
      obtain ⟨x5, rfl, hx5, hf5⟩ := hR
      obtain ⟨F5, hs⟩ := hf5.sat hs0 hb; clear hs0 hf5
      refine WA.callp2 (i := 3) hs (fun _ hs => hs.only (by repeat (first | exact Sel.nil | (apply Sel.cons; (repeat (first | exact Ext.here | apply Ext.there)))))) (by kernel_rfl) (by rfl) (by rfl) (Yc.func (by rfl) fn30) (c_laws_eqPolicy _ _ _ ⟨(hs.okow (x := x3) (F := F3) (by repeat (first | exact List.mem_cons_self | apply List.mem_cons_of_mem))).set, (hs.okow (x := x3) (F := F3) (by repeat (first | exact List.mem_cons_self | apply List.mem_cons_of_mem))).scripts, (hs.okow (x := x3) (F := F3) (by repeat (first | exact List.mem_cons_self | apply List.mem_cons_of_mem))).styles, (hs.okow (x := x3) (F := F3) (by repeat (first | exact List.mem_cons_self | apply List.mem_cons_of_mem))).images, (hs.okow (x := x3) (F := F3) (by repeat (first | exact List.mem_cons_self | apply List.mem_cons_of_mem))).nonce⟩ (hs.okow (x := x5) (F := F5) (by repeat (first | exact List.mem_cons_self | apply List.mem_cons_of_mem)))) ?_
      clear hs; intro w hs
      refine WA.p (i := 4) (by rfl) (by kernel_rfl) (by kernel_rfl) (by kernel_rfl) (by rfl) (hs.only (by repeat (first | exact Sel.nil | (apply Sel.cons; (repeat (first | exact Ext.here | apply Ext.there)))))) (fun w hs => Yl.not (by rfl)) ?_
      refine WA.donen (by kernel_rfl) ?_
      refine WC.condS (by rfl) (fun h3 => ?_) (fun h3 => ?_)
      ·
        replace h3 := not_eq_true h3
        replace h3 := of_decide_eq_false h3
        refine WC.seq ?_
        refine WL.p (by rfl) (Yl.assign (by rfl)) ?_
        refine WL.next ?_
        refine WC.ret ?_
        refine At.thenret ?_
        refine fin1' rfl (by rfl) ?_
        refine RetP.mk hs ?_
        try simp only [hx2, hx3, hx5] at h1
        try simp only [hx2, hx3, hx5] at h2
        try simp only [hx2, hx3, hx5] at h3
        all_goals (first | (simp only [hx2, hx3, hx5]; done) | simp_all)
      ·
        replace h3 := not_eq_false h3
        replace h3 := of_decide_eq_true h3
        refine WC.skipn ?_
        refine WC.seq ?_
        refine WL.p (by rfl) (Yl.assign (by rfl)) ?_
        refine WL.next ?_
        refine WC.ret ?_
        refine fin1' rfl (by rfl) ?_
        refine RetP.mk hs ?_
        try simp only [hx2, hx3, hx5] at h1
        try simp only [hx2, hx3, hx5] at h2
        try simp only [hx2, hx3, hx5] at h3
        all_goals (first | (simp only [hx2, hx3, hx5]; done) | simp_all)

end Go.Sw
