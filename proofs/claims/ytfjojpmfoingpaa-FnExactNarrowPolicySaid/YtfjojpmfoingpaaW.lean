/- Walks: what each function of the program returns, for every input. Printed by gen.py. -/
import Derived.Test.YtfjojpmfoingpaaW0
set_option linter.all false
namespace Go.Sw
open Go Go.RowKit Go.Proofs

theorem c_laws_markStringS (a : (Sl Str)) (k : Int) (w : World) (F : List Nat) (hF : Own.own w a F) (hn : F.Nodup)  (hk0 : 0 ≤ k) (hk : k + ((costL (fun _ => 1) (a.l) : Nat) : Int) ≤ 100000000) : Calls Try.prog 69 [Sl.v a, I k].toArray w (RetM w a F (I (k + ((costL (fun _ => 1) (a.l) : Nat) : Int))) (fun a' => a'.l = mkL mkStr (fun _ => 1) k (a.l))) := by
  have hw := (Own.ok hF : Sl.Ok w a).lt
  have hk2 := hk
  rw [costL_const] at hk2
  refine enterN 20 Try.func69 rfl rfl rfl ?_
  have hs := Sat.markStart hF hn
  refine WC.seq ?_
  refine WL.p (by rfl) (Yl.assign (by rfl)) ?_
  refine WL.next ?_
  refine WC.seq' ?_
  refine WC.seq ?_
  refine WL.p (by rfl) (Yl.assign (by rfl)) ?_
  refine WL.next ?_
  refine WC.block ?_
  refine WC.loopC (ι := Nat × Sl Str × List Nat × List Str) (fun ⟨n, s, F1, p⟩ => a.l.length - n) (fun ⟨n, s, F1, p⟩ => [(5, I (n : Int)), (1, I (k + ((n : Nat) : Int))), (0, s.v)]) (fun ⟨n, s, F1, p⟩ => [ow s F1]) (fun ⟨n, s, F1, p⟩ => n ≤ a.l.length ∧ s.v = a.v ∧ p.length = n ∧ s.l = p ++ a.l.drop n ∧ p = mkL mkStr (fun _ => 1) k (a.l.take n)) [(4, _)] (0, a, F, []) (hs.sel (D := [ow a F]) (by repeat (first | exact Sel.nil | (apply Sel.cons; (repeat (first | exact Ext.here | apply Ext.there)))))) ⟨by rfl, trivial⟩ ⟨by rfl, by exact congrArg (fun z => some (I z)) (by omega), by rfl, trivial⟩ ?_ ?_
  ·
    exact ⟨Nat.zero_le _, rfl, rfl, by simp, by simp [mkL]⟩
  clear hs; rintro ⟨n, s, F1, p⟩ w ⟨hJ1, hJ2, hJ3, hJ4, hJ5⟩ hs
  simp only [List.cons_append, List.nil_append] at hs
  refine WC.seq' ?_
  refine WC.seq ?_
  refine WL.p (by rfl) (Yl.move (by rfl)) ?_
  refine WL.p (by rfl) (Yl.move (by rfl)) ?_
  refine WL.p (by rfl) (Yl.len_sl slu22 (by rfl)) ?_
  refine WL.p (by rfl) (Yl.lss (by rfl) (by rfl)) ?_
  refine WL.next ?_
  refine WC.condS (by rfl) (fun h1 => ?_) (fun h1 => ?_)
  ·
    replace h1 := of_decide_eq_true h1
    have hsl : s.l.length = a.l.length := by rw [hJ4]; simp [hJ3]; omega
    obtain ⟨d, hd0⟩ := exists_get (l := a.l) (k := n) (by omega)
    have hd : s.l[n]? = some d := by rw [hJ4]; exact step_get hJ3 hd0
    have hkl : n < s.l.length := by omega
    refine WC.skipn ?_
    refine WC.seq' ?_
    refine WC.block ?_
    refine WC.seq ?_
    refine WL.p (by rfl) (Yl.move (by rfl)) ?_
    refine WL.p (by rfl) (Yl.move (by rfl)) ?_
    refine WL.p (by rfl) (Yl.move (by rfl)) ?_
    refine WL.callp hs (by rfl) (Yc.func (by rfl) fn103) (c_laws_markText _ _ (by omega)) ?_
    clear hs; intro w hs
    refine WL.p (by rfl) (Yl.indexAddr slt22 (by rfl) (by rfl) (hs.okow (x := s) (F := F1) (by repeat (first | exact List.mem_cons_self | apply List.mem_cons_of_mem))) (by rfl) (hd)) ?_
    refine WL.s (Yr.storeE (u := mkStr (k + (n : Int)) d) (k := n) (hs.flat (x := (mkStr (k + (n : Int)) d : Str)) (by exact (mkT_len (k := k + (n : Int)) (by omega) : WfS _))) (by repeat (first | exact Sel.nil | (apply Sel.cons; (repeat (first | exact Ext.here | apply Ext.there))))) (by rfl) (by rfl) (by rfl) (by exact hkl) ⟨_, by rfl, by rfl⟩ szf9) ?_
    clear hs; rintro _ w ⟨F1, hs⟩
    refine WL.next ?_
    refine WC.region ?_
    refine WL.p (by rfl) (Yl.move (by rfl)) ?_
    refine WL.p (by rfl) (Yl.add (by rfl) (by rfl) (by omega)) ?_
    refine WL.p (by rfl) (Yl.assign (by rfl)) ?_
    refine WL.nil ?_
    refine At.blocknormal ?_
    refine At.then_ ?_
    refine WC.region ?_
    refine WL.p (by rfl) (Yl.move (by rfl)) ?_
    refine WL.p (by rfl) (Yl.add (by rfl) (by rfl) (by omega)) ?_
    refine WL.p (by rfl) (Yl.assign (by rfl)) ?_
    refine WL.nil ?_
    refine At.roundC (n + 1, ⟨s.l.set n (mkStr (k + ((n : Nat) : Int)) d), s.a, s.c⟩, _, p ++ [mkStr (k + ((n : Nat) : Int)) d]) (hs.only (by repeat (first | exact Sel.nil | (apply Sel.cons; (repeat (first | exact Ext.here | apply Ext.there)))))) ⟨by rfl, trivial⟩ ⟨by rfl, by exact congrArg (fun z => some (I z)) (by omega), by rw [Sl.v_set]; rfl, trivial⟩ ?_ ?_
    ·
      show a.l.length - (n + 1) < a.l.length - n
      omega
    ·
      exact ⟨by omega, by rw [Sl.v_set]; exact hJ2, by simp [hJ3], by simp only [hJ4]; exact step_set hJ3 (by omega), by rw [mkL_step hd0, hJ5, costL_const, List.length_take, Nat.min_eq_left (by omega), Nat.one_mul]⟩
  ·
    replace h1 := of_decide_eq_false h1
    refine WC.exit ?_
    refine At.thenexit ?_
    refine At.thenexit ?_
    refine At.blockexit ?_
    refine At.then_ ?_
    refine WC.seq ?_
    refine WL.p (by rfl) (Yl.move (by rfl)) ?_
    refine WL.p (by rfl) (Yl.assign (by rfl)) ?_
    refine WL.next ?_
    refine WC.ret ?_
    refine fin1' rfl (by rfl) ?_
    have hsl : s.l.length = a.l.length := by rw [hJ4]; simp [hJ3]; omega
    have hn2 : n = a.l.length := by omega
    subst hn2
    rw [costL_const]
    refine RetM.cast (congrArg I (by omega)) ?_
    exact RetM.of hs (by repeat (first | exact List.mem_cons_self | apply List.mem_cons_of_mem)) (Sl.v_enc hJ2) (by rw [hJ4, List.drop_length, List.append_nil, hJ5, List.take_length])

theorem c_laws_markPolicy (a : PPolicy) (k : Int) (w : World) (F : List Nat) (hF : Own.own w a F) (hn : F.Nodup)  (hk0 : 0 ≤ k) (hk : k + ((costoPolicy a.lg : Nat) : Int) ≤ 100000000) : Calls Try.prog 18 [.agg #[Bo a.set, Sl.v a.scripts, Sl.v a.styles, Sl.v a.images, S a.nonce], I k].toArray w (RetM w a F (I (k + ((costoPolicy a.lg : Nat) : Int))) (fun a' => a'.lg = mkoPolicy k a.lg)) := by
  have hk2 := hk
  simp only [costoPolicy, costoPolicy, PToken.lg, PNode.lg, PBuilder.lg, PSheet.lg, PPolicy.lg, PServer.lg, PCache.lg, PNet.lg, PPage.lg] at hk2
  refine enterN 18 Try.func18 rfl rfl rfl ?_
  have hs := Sat.markStart hF hn
  obtain ⟨G0, G1, G2, hfl, hs⟩ := PPolicy.split hs
  refine WC.seq ?_
  refine WL.r (by rfl) (Yr.box hs (by rfl) (by rfl)) ?_
  clear hs; rintro _ w ⟨b1, rfl, hb, hs⟩; clear hb
  refine WL.p (by rfl) (Yl.assign (by rfl)) ?_
  refine WL.next ?_
  refine WC.seq ?_
  refine WL.p (by rfl) (Yl.fieldAddr fa26_1 (by rfl)) ?_
  refine WL.p (by rfl) (Yl.loadB sca22 (by rfl) hs (by repeat (first | exact List.mem_cons_self | apply List.mem_cons_of_mem)) (by rfl)) ?_
  refine WL.p (by rfl) (Yl.move (by rfl)) ?_
  refine WL.callm (a := a.scripts) (F := G0) hs (by repeat (first | exact Sel.nil | (apply Sel.cons; (repeat (first | exact Ext.here | apply Ext.there))))) (by rfl) (Yc.func (by rfl) fn69) (c_laws_markStringS a.scripts _ _ G0 (own_of hs (by repeat (first | exact List.mem_cons_self | apply List.mem_cons_of_mem))) (nodup_of hs (by repeat (first | exact List.mem_cons_self | apply List.mem_cons_of_mem))) (by first | assumption | omega | (simp only [costServer, costNode, costSheet, costToken, costoPolicy, costoCache, costoNet, costoSheet, costoBuilder, costoToken, PToken.lg, PNode.lg, PBuilder.lg, PSheet.lg, PPolicy.lg, PServer.lg, PCache.lg, PNet.lg, PPage.lg] at *; omega)) (by first | assumption | omega | (simp only [costServer, costNode, costSheet, costToken, costoPolicy, costoCache, costoNet, costoSheet, costoBuilder, costoToken, PToken.lg, PNode.lg, PBuilder.lg, PSheet.lg, PPolicy.lg, PServer.lg, PCache.lg, PNet.lg, PPage.lg] at *; omega))) ?_
  clear hs; intro a2 F2 w he2 hq2 hs
  refine WL.p (by rfl) (Yl.assign (by rfl)) ?_
  refine WL.next ?_
  refine WC.seq ?_
  refine WL.p (by rfl) (Yl.fieldAddr fa26_2 (by rfl)) ?_
  refine WL.p (by rfl) (Yl.loadB sca22 (by rfl) hs (by repeat (first | exact List.mem_cons_self | apply List.mem_cons_of_mem)) (by rfl)) ?_
  refine WL.p (by rfl) (Yl.move (by rfl)) ?_
  refine WL.callm (a := a.styles) (F := G1) hs (by repeat (first | exact Sel.nil | (apply Sel.cons; (repeat (first | exact Ext.here | apply Ext.there))))) (by rfl) (Yc.func (by rfl) fn69) (c_laws_markStringS a.styles _ _ G1 (own_of hs (by repeat (first | exact List.mem_cons_self | apply List.mem_cons_of_mem))) (nodup_of hs (by repeat (first | exact List.mem_cons_self | apply List.mem_cons_of_mem))) (by first | assumption | omega | (simp only [costServer, costNode, costSheet, costToken, costoPolicy, costoCache, costoNet, costoSheet, costoBuilder, costoToken, PToken.lg, PNode.lg, PBuilder.lg, PSheet.lg, PPolicy.lg, PServer.lg, PCache.lg, PNet.lg, PPage.lg] at *; omega)) (by first | assumption | omega | (simp only [costServer, costNode, costSheet, costToken, costoPolicy, costoCache, costoNet, costoSheet, costoBuilder, costoToken, PToken.lg, PNode.lg, PBuilder.lg, PSheet.lg, PPolicy.lg, PServer.lg, PCache.lg, PNet.lg, PPage.lg] at *; omega))) ?_
  clear hs; intro a3 F3 w he3 hq3 hs
  refine WL.p (by rfl) (Yl.assign (by rfl)) ?_
  refine WL.next ?_
  refine WC.seq ?_
  refine WL.p (by rfl) (Yl.fieldAddr fa26_3 (by rfl)) ?_
  refine WL.p (by rfl) (Yl.loadB sca22 (by rfl) hs (by repeat (first | exact List.mem_cons_self | apply List.mem_cons_of_mem)) (by rfl)) ?_
  refine WL.p (by rfl) (Yl.move (by rfl)) ?_
  refine WL.callm (a := a.images) (F := G2) hs (by repeat (first | exact Sel.nil | (apply Sel.cons; (repeat (first | exact Ext.here | apply Ext.there))))) (by rfl) (Yc.func (by rfl) fn69) (c_laws_markStringS a.images _ _ G2 (own_of hs (by repeat (first | exact List.mem_cons_self | apply List.mem_cons_of_mem))) (nodup_of hs (by repeat (first | exact List.mem_cons_self | apply List.mem_cons_of_mem))) (by first | assumption | omega | (simp only [costServer, costNode, costSheet, costToken, costoPolicy, costoCache, costoNet, costoSheet, costoBuilder, costoToken, PToken.lg, PNode.lg, PBuilder.lg, PSheet.lg, PPolicy.lg, PServer.lg, PCache.lg, PNet.lg, PPage.lg] at *; omega)) (by first | assumption | omega | (simp only [costServer, costNode, costSheet, costToken, costoPolicy, costoCache, costoNet, costoSheet, costoBuilder, costoToken, PToken.lg, PNode.lg, PBuilder.lg, PSheet.lg, PPolicy.lg, PServer.lg, PCache.lg, PNet.lg, PPage.lg] at *; omega))) ?_
  clear hs; intro a4 F4 w he4 hq4 hs
  refine WL.p (by rfl) (Yl.assign (by rfl)) ?_
  refine WL.next ?_
  refine WC.seq ?_
  refine WL.p (by rfl) (Yl.move (by rfl)) ?_
  refine WL.p (by rfl) (Yl.assign (by rfl)) ?_
  refine WL.next ?_
  refine WC.ret ?_
  refine fin1' rfl (by rfl) ?_
  refine RetM.cast (congrArg I (by first | rfl | (simp only [costoPolicy, costoPolicy, PToken.lg, PNode.lg, PBuilder.lg, PSheet.lg, PPolicy.lg, PServer.lg, PCache.lg, PNet.lg, PPage.lg]; omega))) ?_
  exact RetM.of (a' := ⟨a.set, a2, a3, a4, a.nonce⟩) (PPolicy.join ⟨a.set, a2, a3, a4, a.nonce⟩ (hs.only (D := [ow a2 F2, ow a3 F3, ow a4 F4]) (by repeat (first | exact Sel.nil | (apply Sel.cons; (repeat (first | exact Ext.here | apply Ext.there)))))) (Flat.any hfl.1) (Flat.any hfl.2.1)) List.mem_cons_self (by show [Bo a.set, Sl.v a2, Sl.v a3, Sl.v a4, S a.nonce] = [Bo a.set, Sl.v a.scripts, Sl.v a.styles, Sl.v a.images, S a.nonce]; rw [show Sl.v a2 = Sl.v a.scripts from Sl.enc_v he2, show Sl.v a3 = Sl.v a.styles from Sl.enc_v he3, show Sl.v a4 = Sl.v a.images from Sl.enc_v he4]) (by simp only [PPolicy.lg, mkoPolicy]; rw [show a2.l = _ from hq2, show a3.l = _ from hq3, show a4.l = _ from hq4])

theorem c_laws_heldStringS (a : (Sl Str)) (k : Int) (v : List Str) (w : World) (h_a : Ph.ok w a) (hk0 : 0 ≤ k) (hk : k + ((costL (fun _ => 1) (v) : Nat) : Int) ≤ 100000000) (hm : a.l = mkL mkStr (fun _ => 1) k v) : Calls Try.prog 70 [Sl.v a, I k].toArray w (RetP w (I (k + ((costL (fun _ => 1) (v) : Nat) : Int)))) := by
  have hw := h_a.lt
  have hc : a.l.length = v.length := by rw [hm, mkL_length]
  have hk2 := hk
  rw [costL_const] at hk2
  refine enterN 22 Try.func70 rfl rfl rfl ?_
  have hs := Sat.start w
  refine WC.seq ?_
  refine WL.p (by rfl) (Yl.assign (by rfl)) ?_
  refine WL.next ?_
  refine WC.seq' ?_
  refine WC.seq ?_
  refine WL.p (by rfl) (Yl.assign (by rfl)) ?_
  refine WL.next ?_
  refine WC.block ?_
  refine WC.loopC (ι := Nat) (fun n => a.l.length - n) (fun n => [(5, I (n : Int)), (1, I (k + ((n : Nat) : Int)))]) (fun _ => []) (fun n => n ≤ a.l.length) [(0, _)] 0 (hs) ⟨by rfl, trivial⟩ ⟨by rfl, by exact congrArg (fun z => some (I z)) (by omega), trivial⟩ ?_ ?_
  ·
    exact Nat.zero_le _
  clear hs; rintro n w hJ1 hs
  simp only [List.nil_append] at hs
  refine WC.seq' ?_
  refine WC.seq ?_
  refine WL.p (by rfl) (Yl.move (by rfl)) ?_
  refine WL.p (by rfl) (Yl.move (by rfl)) ?_
  refine WL.p (by rfl) (Yl.len_sl slu22 (by rfl)) ?_
  refine WL.p (by rfl) (Yl.lss (by rfl) (by rfl)) ?_
  refine WL.next ?_
  refine WC.condS (by rfl) (fun h1 => ?_) (fun h1 => ?_)
  ·
    replace h1 := of_decide_eq_true h1
    obtain ⟨y, hy⟩ := exists_get (l := v) (k := n) (by omega)
    have hd : a.l[n]? = some (mkStr (k + ((n : Nat) : Int)) y) := by rw [hm, mkL_get hy, costL_take_const (by omega), Nat.one_mul]
    refine WC.skipn ?_
    refine WC.seq' ?_
    refine WC.block ?_
    refine WC.seq' ?_
    refine WC.quietn mixed (by kernel_rfl) hs ?_
    refine WQ.p (by rfl) (fun w hs => Yl.move (by rfl)) ?_
    refine WQ.p (by rfl) (fun w hs => Yl.move (by rfl)) ?_
    refine WQ.p (by rfl) (fun w hs => Yl.indexAddr slt22 (by rfl) (by rfl) (Ph.old h_a hs) (by rfl) (hd)) ?_
    refine WQ.p (by rfl) (fun w hs => Yl.loadC0 sca9 (by rfl) (Sl.Ok.at_ (Ph.old h_a hs) (by assumption)).2 (by rfl)) ?_
    refine WQ.p (by rfl) (fun w hs => Yl.move (by rfl)) ?_
    refine WQ.callp (by rfl) (fun w => Yc.func (by rfl) fn103) (fun w hs => (c_laws_markText _ _ (by omega))) (fun _ _ hs hb => hs.ext hb) ?_
    refine WQ.p (by rfl) (fun w hs => Yl.nes (by rfl) (by rfl)) ?_
    refine WQ.next ?_
    clear hs; intro w hs
    refine WC.condS (by rfl) (fun h2 => ?_) (fun h2 => ?_)
    ·
      replace h2 := not_eq_true h2
      replace h2 := of_decide_eq_false h2
      refine WC.seq ?_
      refine WL.p (by rfl) (Yl.assign (by rfl)) ?_
      refine WL.next ?_
      refine WC.ret ?_
      refine At.thenret ?_
      refine At.blockret ?_
      refine At.thenret ?_
      refine At.thenret ?_
      refine At.blockret ?_
      refine At.thenret ?_
      refine fin1' rfl (by rfl) ?_
      refine RetP.mk hs ?_
      first
        | exact absurd rfl h2
        | (exfalso; omega)
        | (rw [costL_const]; exact congrArg I (by omega))
    ·
      replace h2 := not_eq_false h2
      replace h2 := of_decide_eq_true h2
      refine WC.skipn ?_
      refine WC.region ?_
      refine WL.p (by rfl) (Yl.move (by rfl)) ?_
      refine WL.p (by rfl) (Yl.add (by rfl) (by rfl) (by omega)) ?_
      refine WL.p (by rfl) (Yl.assign (by rfl)) ?_
      refine WL.nil ?_
      refine At.blocknormal ?_
      refine At.then_ ?_
      refine WC.region ?_
      refine WL.p (by rfl) (Yl.move (by rfl)) ?_
      refine WL.p (by rfl) (Yl.add (by rfl) (by rfl) (by omega)) ?_
      refine WL.p (by rfl) (Yl.assign (by rfl)) ?_
      refine WL.nil ?_
      refine At.roundC (n + 1) (hs.only (by repeat (first | exact Sel.nil | (apply Sel.cons; (repeat (first | exact Ext.here | apply Ext.there)))))) ⟨by rfl, trivial⟩ ⟨by rfl, by exact congrArg (fun z => some (I z)) (by omega), trivial⟩ ?_ ?_
      ·
        omega
      ·
        omega
  ·
    replace h1 := of_decide_eq_false h1
    refine WC.exit ?_
    refine At.thenexit ?_
    refine At.thenexit ?_
    refine At.blockexit ?_
    refine At.then_ ?_
    refine WC.seq ?_
    refine WL.p (by rfl) (Yl.move (by rfl)) ?_
    refine WL.p (by rfl) (Yl.assign (by rfl)) ?_
    refine WL.next ?_
    refine WC.ret ?_
    refine fin1' rfl (by rfl) ?_
    refine RetP.mk hs ?_
    first
      | exact absurd rfl h1
      | (exfalso; omega)
      | (rw [costL_const]; exact congrArg I (by omega))

theorem c_laws_heldPolicy (a : PPolicy) (k : Int) (v : TPolicy) (w : World) (h_a : Ph.ok w a) (hk0 : 0 ≤ k) (hk : k + ((costoPolicy v : Nat) : Int) ≤ 100000000) (hm : a.lg = mkoPolicy k v) : Calls Try.prog 19 [.agg #[Bo a.set, Sl.v a.scripts, Sl.v a.styles, Sl.v a.images, S a.nonce], I k].toArray w (RetP w (I (k + ((costoPolicy v : Nat) : Int)))) := by
  have hk2 := hk
  simp only [costoPolicy, costoPolicy] at hk2
  refine enterN 24 Try.func19 rfl rfl rfl ?_
  have hs := Sat.start w
  refine WC.seq ?_
  refine WL.r (by rfl) (Yr.box hs (by rfl) (by rfl)) ?_
  clear hs; rintro _ w ⟨b1, rfl, hb, hs⟩; clear hb
  refine WL.p (by rfl) (Yl.assign (by rfl)) ?_
  refine WL.next ?_
  refine WC.seq ?_
  refine WL.p (by rfl) (Yl.fieldAddr fa26_1 (by rfl)) ?_
  refine WL.p (by rfl) (Yl.loadB sca22 (by rfl) hs (by repeat (first | exact List.mem_cons_self | apply List.mem_cons_of_mem)) (by rfl)) ?_
  refine WL.p (by rfl) (Yl.move (by rfl)) ?_
  refine WL.callp hs (by rfl) (Yc.func (by rfl) fn70) (c_laws_heldStringS _ _ v.scripts _ (Ph.old h_a.scripts hs) (by first | assumption | omega | (simp only [costServer, costNode, costSheet, costToken, costoPolicy, costoCache, costoNet, costoSheet, costoBuilder, costoToken] at *; omega)) (by first | assumption | omega | (simp only [costServer, costNode, costSheet, costToken, costoPolicy, costoCache, costoNet, costoSheet, costoBuilder, costoToken] at *; omega)) (by exact congrArg TPolicy.scripts hm)) ?_
  clear hs; intro w hs
  refine WL.p (by rfl) (Yl.assign (by rfl)) ?_
  refine WL.next ?_
  refine WC.seq' ?_
  refine WC.seq ?_
  refine WL.p (by rfl) (Yl.move (by rfl)) ?_
  refine WL.p (by rfl) (Yl.lss (by rfl) (by rfl)) ?_
  refine WL.next ?_
  refine WC.condS (by rfl) (fun h1 => ?_) (fun h1 => ?_)
  ·
    replace h1 := of_decide_eq_true h1
    refine WC.seq ?_
    refine WL.p (by rfl) (Yl.assign (by rfl)) ?_
    refine WL.next ?_
    refine WC.ret ?_
    refine At.thenret ?_
    refine fin1' rfl (by rfl) ?_
    refine RetP.mk hs ?_
    first
      | (exfalso; omega)
      | rfl
      | exact congrArg I (by simp only [costoPolicy, costoPolicy]; omega)
  ·
    replace h1 := of_decide_eq_false h1
    refine WC.skipn ?_
    refine WC.seq ?_
    refine WL.p (by rfl) (Yl.fieldAddr fa26_2 (by rfl)) ?_
    refine WL.p (by rfl) (Yl.loadB sca22 (by rfl) hs (by repeat (first | exact List.mem_cons_self | apply List.mem_cons_of_mem)) (by rfl)) ?_
    refine WL.p (by rfl) (Yl.move (by rfl)) ?_
    refine WL.callp hs (by rfl) (Yc.func (by rfl) fn70) (c_laws_heldStringS _ _ v.styles _ (Ph.old h_a.styles hs) (by first | assumption | omega | (simp only [costServer, costNode, costSheet, costToken, costoPolicy, costoCache, costoNet, costoSheet, costoBuilder, costoToken] at *; omega)) (by first | assumption | omega | (simp only [costServer, costNode, costSheet, costToken, costoPolicy, costoCache, costoNet, costoSheet, costoBuilder, costoToken] at *; omega)) (by exact congrArg TPolicy.styles hm)) ?_
    clear hs; intro w hs
    refine WL.p (by rfl) (Yl.assign (by rfl)) ?_
    refine WL.next ?_
    refine WC.seq' ?_
    refine WC.seq ?_
    refine WL.p (by rfl) (Yl.move (by rfl)) ?_
    refine WL.p (by rfl) (Yl.lss (by rfl) (by rfl)) ?_
    refine WL.next ?_
    refine WC.condS (by rfl) (fun h2 => ?_) (fun h2 => ?_)
    ·
      replace h2 := of_decide_eq_true h2
      refine WC.seq ?_
      refine WL.p (by rfl) (Yl.assign (by rfl)) ?_
      refine WL.next ?_
      refine WC.ret ?_
      refine At.thenret ?_
      refine fin1' rfl (by rfl) ?_
      refine RetP.mk hs ?_
      first
        | (exfalso; omega)
        | rfl
        | exact congrArg I (by simp only [costoPolicy, costoPolicy]; omega)
    ·
      replace h2 := of_decide_eq_false h2
      refine WC.skipn ?_
      refine WC.seq ?_
      refine WL.p (by rfl) (Yl.fieldAddr fa26_3 (by rfl)) ?_
      refine WL.p (by rfl) (Yl.loadB sca22 (by rfl) hs (by repeat (first | exact List.mem_cons_self | apply List.mem_cons_of_mem)) (by rfl)) ?_
      refine WL.p (by rfl) (Yl.move (by rfl)) ?_
      refine WL.callp hs (by rfl) (Yc.func (by rfl) fn70) (c_laws_heldStringS _ _ v.images _ (Ph.old h_a.images hs) (by first | assumption | omega | (simp only [costServer, costNode, costSheet, costToken, costoPolicy, costoCache, costoNet, costoSheet, costoBuilder, costoToken] at *; omega)) (by first | assumption | omega | (simp only [costServer, costNode, costSheet, costToken, costoPolicy, costoCache, costoNet, costoSheet, costoBuilder, costoToken] at *; omega)) (by exact congrArg TPolicy.images hm)) ?_
      clear hs; intro w hs
      refine WL.p (by rfl) (Yl.assign (by rfl)) ?_
      refine WL.next ?_
      refine WC.seq' ?_
      refine WC.seq ?_
      refine WL.p (by rfl) (Yl.move (by rfl)) ?_
      refine WL.p (by rfl) (Yl.lss (by rfl) (by rfl)) ?_
      refine WL.next ?_
      refine WC.condS (by rfl) (fun h3 => ?_) (fun h3 => ?_)
      ·
        replace h3 := of_decide_eq_true h3
        refine WC.seq ?_
        refine WL.p (by rfl) (Yl.assign (by rfl)) ?_
        refine WL.next ?_
        refine WC.ret ?_
        refine At.thenret ?_
        refine fin1' rfl (by rfl) ?_
        refine RetP.mk hs ?_
        first
          | (exfalso; omega)
          | rfl
          | exact congrArg I (by simp only [costoPolicy, costoPolicy]; omega)
      ·
        replace h3 := of_decide_eq_false h3
        refine WC.skipn ?_
        refine WC.seq ?_
        refine WL.p (by rfl) (Yl.move (by rfl)) ?_
        refine WL.p (by rfl) (Yl.assign (by rfl)) ?_
        refine WL.next ?_
        refine WC.ret ?_
        refine fin1' rfl (by rfl) ?_
        refine RetP.mk hs ?_
        first
          | (exfalso; omega)
          | rfl
          | exact congrArg I (by simp only [costoPolicy, costoPolicy]; omega)

theorem c_laws_FnExactNarrowPolicy (aA : PPolicy) (aB : PPolicy) (w : World) (h_aA : Ph.ok w aA) (h_aB : Ph.ok w aB)  : Calls Try.prog 3 [.agg #[Bo aA.set, Sl.v aA.scripts, Sl.v aA.styles, Sl.v aA.images, S aA.nonce], .agg #[Bo aB.set, Sl.v aB.scripts, Sl.v aB.styles, Sl.v aB.images, S aB.nonce]].toArray w (RetP w (Bo true)) := by
  refine enterN 92 Try.func3 rfl rfl rfl ?_
  have hs := Sat.start w
  refine WC.seq ?_
  refine WL.r (by rfl) (Yr.box hs (by rfl) (by rfl)) ?_
  clear hs; rintro _ w ⟨b1, rfl, hb, hs⟩; clear hb
  refine WL.r (by rfl) (Yr.box hs (by rfl) (by rfl)) ?_
  clear hs; rintro _ w ⟨b2, rfl, hb, hs⟩; clear hb
  refine WL.p (by rfl) (Yl.assign (by rfl)) ?_
  refine WL.next ?_
  refine WC.seq ?_
  refine WL.p (by rfl) (Yl.assign (by rfl)) ?_
  refine WL.next ?_
  refine WC.seq ?_
  refine WL.p (by rfl) (Yl.loadAB agg24 (by rfl) hs (by repeat (first | exact List.mem_cons_self | apply List.mem_cons_of_mem)) (by rfl) (by rfl)) ?_
  refine WL.p (by rfl) (Yl.move (by rfl)) ?_
  refine WL.callp hs (by rfl) (Yc.func (by rfl) fn13) (c_laws_szPolicy _ _ _ (Ph.old h_aA hs) (by first | assumption | omega | (simp only [lsz] at *; omega) | (simp only [lsz, strsz, TPolicy.size, TCache.size, TAddr.size, TRequest.size, TEntry.size, TResponse.size, TLine.size] at *; omega) | (simp only [lsz_map, TPage.size, TBuilder.size, TNode.size, TToken.size, TTokenizer.size, TServer.size, TFile.size, TNet.size, TCache.size, TSheet.size, strsz] at *; omega) | (simp only [lsz_map, TPage.size, TBuilder.size, TNode.size, TToken.size, TTokenizer.size, TServer.size, TFile.size, TNet.size, TCache.size, TSheet.size, strsz, lsz] at *; omega)) (by first | assumption | omega | (simp only [lsz] at *; omega) | (simp only [lsz, strsz, TPolicy.size, TCache.size, TAddr.size, TRequest.size, TEntry.size, TResponse.size, TLine.size] at *; omega) | (simp only [lsz_map, TPage.size, TBuilder.size, TNode.size, TToken.size, TTokenizer.size, TServer.size, TFile.size, TNet.size, TCache.size, TSheet.size, strsz] at *; omega) | (simp only [lsz_map, TPage.size, TBuilder.size, TNode.size, TToken.size, TTokenizer.size, TServer.size, TFile.size, TNet.size, TCache.size, TSheet.size, strsz, lsz] at *; omega))) ?_
  clear hs; intro w hs
  refine WL.p (by rfl) (Yl.assign (by rfl)) ?_
  refine WL.next ?_
  refine WC.seq' ?_
  refine WC.seq ?_
  refine WL.p (by rfl) (Yl.move (by rfl)) ?_
  refine WL.p (by rfl) (Yl.lss (by rfl) (by rfl)) ?_
  refine WL.next ?_
  refine WC.condS (by rfl) (fun h1 => ?_) (fun h1 => ?_)
  ·
    replace h1 := lessN_neg (of_decide_eq_true h1)
    refine WC.seq ?_
    refine WL.p (by rfl) (Yl.assign (by rfl)) ?_
    refine WL.next ?_
    refine WC.ret ?_
    refine At.thenret ?_
    refine fin1' rfl (by rfl) ?_
    refine RetP.mk hs ?_
    simp_all
  ·
    replace h1 := lessN_nn (by omega) (of_decide_eq_false h1)
    refine WC.skipn ?_
    refine WC.seq ?_
    refine WL.p (by rfl) (Yl.loadAB agg24 (by rfl) hs (by repeat (first | exact List.mem_cons_self | apply List.mem_cons_of_mem)) (by rfl) (by rfl)) ?_
    refine WL.p (by rfl) (Yl.move (by rfl)) ?_
    refine WL.callp hs (by rfl) (Yc.func (by rfl) fn13) (c_laws_szPolicy _ _ _ (Ph.old h_aB hs) (by first | assumption | omega | (simp only [lsz] at *; omega) | (simp only [lsz, strsz, TPolicy.size, TCache.size, TAddr.size, TRequest.size, TEntry.size, TResponse.size, TLine.size] at *; omega) | (simp only [lsz_map, TPage.size, TBuilder.size, TNode.size, TToken.size, TTokenizer.size, TServer.size, TFile.size, TNet.size, TCache.size, TSheet.size, strsz] at *; omega) | (simp only [lsz_map, TPage.size, TBuilder.size, TNode.size, TToken.size, TTokenizer.size, TServer.size, TFile.size, TNet.size, TCache.size, TSheet.size, strsz, lsz] at *; omega)) (by first | assumption | omega | (simp only [lsz] at *; omega) | (simp only [lsz, strsz, TPolicy.size, TCache.size, TAddr.size, TRequest.size, TEntry.size, TResponse.size, TLine.size] at *; omega) | (simp only [lsz_map, TPage.size, TBuilder.size, TNode.size, TToken.size, TTokenizer.size, TServer.size, TFile.size, TNet.size, TCache.size, TSheet.size, strsz] at *; omega) | (simp only [lsz_map, TPage.size, TBuilder.size, TNode.size, TToken.size, TTokenizer.size, TServer.size, TFile.size, TNet.size, TCache.size, TSheet.size, strsz, lsz] at *; omega))) ?_
    clear hs; intro w hs
    refine WL.p (by rfl) (Yl.assign (by rfl)) ?_
    refine WL.next ?_
    refine WC.seq' ?_
    refine WC.seq ?_
    refine WL.p (by rfl) (Yl.move (by rfl)) ?_
    refine WL.p (by rfl) (Yl.lss (by rfl) (by rfl)) ?_
    refine WL.next ?_
    refine WC.condS (by rfl) (fun h2 => ?_) (fun h2 => ?_)
    ·
      replace h2 := lessN_neg (of_decide_eq_true h2)
      refine WC.seq ?_
      refine WL.p (by rfl) (Yl.assign (by rfl)) ?_
      refine WL.next ?_
      refine WC.ret ?_
      refine At.thenret ?_
      refine fin1' rfl (by rfl) ?_
      refine RetP.mk hs ?_
      simp_all
    ·
      replace h2 := lessN_nn (by omega) (of_decide_eq_false h2)
      refine WC.skipn ?_
      refine WC.anyn mixed hs ?_
      clear hs; intro w hs
      refine WA.p (i := 0) (by rfl) (by kernel_rfl) (by kernel_rfl) (by kernel_rfl) (by rfl) (hs.only (by repeat (first | exact Sel.nil | (apply Sel.cons; (repeat (first | exact Ext.here | apply Ext.there)))))) (fun w hs => Yl.loadAB agg24 (by rfl) hs (by repeat (first | exact List.mem_cons_self | apply List.mem_cons_of_mem)) (by rfl) (by rfl)) ?_
      refine WA.p (i := 2) (by rfl) (by kernel_rfl) (by kernel_rfl) (by kernel_rfl) (by rfl) (hs.only (by repeat (first | exact Sel.nil | (apply Sel.cons; (repeat (first | exact Ext.here | apply Ext.there)))))) (fun w hs => Yl.loadAB agg24 (by rfl) hs (by repeat (first | exact List.mem_cons_self | apply List.mem_cons_of_mem)) (by rfl) (by rfl)) ?_
      refine WA.dag' [(⟨1, 25, [], (fun _ v cs => ∃ (x : PPolicy) (F : List Nat), v = .agg (Ph.enc x).toArray ∧ cs = [ow x F] ∧ x.lg = aA.lg)⟩, []), (⟨3, 27, [], (fun _ v cs => ∃ (x : PPolicy) (F : List Nat), v = .agg (Ph.enc x).toArray ∧ cs = [ow x F] ∧ x.lg = aB.lg)⟩, [0]), (⟨4, 28, [], (fun _ v cs => ∃ (x : PPolicy) (F : List Nat), v = .agg (Ph.enc x).toArray ∧ cs = [ow x F] ∧ x.lg = narrow (aA.lg) (aB.lg))⟩, [0, 1]), (⟨5, 6, [], (fun _ v cs => ∃ b, v = bp b 0 ∧ cs = [box b 26 [.bool false, .slice none 0 0, .slice none 0 0, .slice none 0 0, .string ⟨#[]⟩]])⟩, [])] [(0, _), (1, _), (2, _), (3, _), (4, _), (5, _), (14, _), (15, _), (16, _), (17, _), (18, _), (19, _), (20, _), (21, _), (22, _), (23, _), (24, _), (26, _)] ⟨by rfl, by rfl, by rfl, by rfl, by rfl, by rfl, by rfl, by rfl, by rfl, by rfl, by rfl, by rfl, by rfl, by rfl, by rfl, by rfl, by rfl, by rfl, trivial⟩ (by rfl) (by kernel_rfl) (by kernel_rfl) (by kernel_rfl) (by kernel_rfl) (by kernel_rfl) (by kernel_rfl) (fun _ hs => hs.only (by repeat (first | exact Sel.nil | (apply Sel.cons; (repeat (first | exact Ext.here | apply Ext.there)))))) hs (fuel := 1) ⟨⟨local_const, ?_⟩, ⟨local_const, ?_⟩, ⟨local_const, ?_⟩, ⟨local_const, ?_⟩, trivial⟩ ?_
      ·
        clear hs
        intro w R hs
        simp only [List.cons_append, List.nil_append] at hs
        refine Gives.c' (by rfl) (Yc.func (by rfl) fn15) (c_laws_toPolicy _ _ (Ph.old h_aA hs) (by first | assumption | omega | (simp only [lsz] at *; omega) | (simp only [lsz, strsz, TPolicy.size, TCache.size, TAddr.size, TRequest.size, TEntry.size, TResponse.size, TLine.size] at *; omega) | (simp only [lsz_map, TPage.size, TBuilder.size, TNode.size, TToken.size, TTokenizer.size, TServer.size, TFile.size, TNet.size, TCache.size, TSheet.size, strsz] at *; omega) | (simp only [lsz_map, TPage.size, TBuilder.size, TNode.size, TToken.size, TTokenizer.size, TServer.size, TFile.size, TNet.size, TCache.size, TSheet.size, strsz, lsz] at *; omega))) ?_
        rintro _ w1 ⟨_, rfl, hb, x, rfl, hx, hf⟩
        obtain ⟨F, hs1⟩ := hf.sat hs hb
        exact ⟨_, rfl, [ow x F], ⟨x, F, rfl, rfl, by exact hx⟩, hs1⟩
      ·
        clear hs
        rintro _ _ ⟨x3, F3, rfl, rfl, hx3⟩
        intro w R hs
        simp only [List.cons_append, List.nil_append] at hs
        refine Gives.c' (by rfl) (Yc.func (by rfl) fn15) (c_laws_toPolicy _ _ (Ph.old h_aB hs) (by first | assumption | omega | (simp only [lsz] at *; omega) | (simp only [lsz, strsz, TPolicy.size, TCache.size, TAddr.size, TRequest.size, TEntry.size, TResponse.size, TLine.size] at *; omega) | (simp only [lsz_map, TPage.size, TBuilder.size, TNode.size, TToken.size, TTokenizer.size, TServer.size, TFile.size, TNet.size, TCache.size, TSheet.size, strsz] at *; omega) | (simp only [lsz_map, TPage.size, TBuilder.size, TNode.size, TToken.size, TTokenizer.size, TServer.size, TFile.size, TNet.size, TCache.size, TSheet.size, strsz, lsz] at *; omega))) ?_
        rintro _ w1 ⟨_, rfl, hb, x, rfl, hx, hf⟩
        obtain ⟨F, hs1⟩ := hf.sat hs hb
        exact ⟨_, rfl, [ow x F], ⟨x, F, rfl, rfl, by first | exact hx | (simp only [hx3] at hx; exact hx)⟩, hs1⟩
      ·
        clear hs
        rintro _ _ ⟨x3, F3, rfl, rfl, hx3⟩
        rintro _ _ ⟨x4, F4, rfl, rfl, hx4⟩
        intro w R hs
        simp only [List.cons_append, List.nil_append] at hs
        refine Gives.c' (by rfl) (Yc.func (by rfl) fn14) (c_spec_NarrowPolicy _ _ _ (hs.okow (x := x3) (F := F3) (by repeat (first | exact List.mem_cons_self | apply List.mem_cons_of_mem))) (hs.okow (x := x4) (F := F4) (by repeat (first | exact List.mem_cons_self | apply List.mem_cons_of_mem))) (by first | (rw [hx2]; omega) | (rw [hx3]; omega) | (rw [hx4]; omega) | (rw [hx5]; omega) | (rw [hx6]; omega) | (rw [hx7]; omega) | (rw [hx8]; omega) | (rw [hx9]; omega) | (rw [hx10]; omega) | (rw [hx11]; omega) | (rw [hx12]; omega) | (rw [hx13]; omega) | (rw [hx14]; omega) | (rw [hx15]; omega) | (rw [hx16]; omega) | (rw [hx17]; omega) | (rw [hx18]; omega) | (rw [hx19]; omega) | (rw [hx20]; omega) | (rw [hx21]; omega) | (rw [hx22]; omega) | (rw [hx23]; omega) | (rw [hx24]; omega) | (rw [hx25]; omega) | (rw [hx26]; omega) | (rw [hx27]; omega) | (rw [hx28]; omega) | (rw [hx29]; omega) | (rw [hx30]; omega) | (rw [hx31]; omega) | (rw [hx32]; omega) | (rw [hx33]; omega) | (rw [hx34]; omega) | (rw [hx35]; omega) | (rw [hx36]; omega) | (rw [hx37]; omega) | (rw [hx38]; omega) | (rw [hx39]; omega) | (rw [hx40]; omega) | (rw [hx41]; omega) | (rw [hx42]; omega) | (rw [hx43]; omega) | (rw [hx44]; omega) | (rw [hx45]; omega) | (rw [hx46]; omega) | (rw [hx47]; omega) | (rw [hx48]; omega) | (rw [hx49]; omega) | (rw [hx50]; omega) | (rw [hx51]; omega) | (rw [hx52]; omega) | (rw [hx53]; omega) | (rw [hx54]; omega) | (rw [hx55]; omega) | (rw [hx56]; omega) | (rw [hx57]; omega) | (rw [hx58]; omega) | (rw [hx59]; omega)) (by first | (rw [hx2]; omega) | (rw [hx3]; omega) | (rw [hx4]; omega) | (rw [hx5]; omega) | (rw [hx6]; omega) | (rw [hx7]; omega) | (rw [hx8]; omega) | (rw [hx9]; omega) | (rw [hx10]; omega) | (rw [hx11]; omega) | (rw [hx12]; omega) | (rw [hx13]; omega) | (rw [hx14]; omega) | (rw [hx15]; omega) | (rw [hx16]; omega) | (rw [hx17]; omega) | (rw [hx18]; omega) | (rw [hx19]; omega) | (rw [hx20]; omega) | (rw [hx21]; omega) | (rw [hx22]; omega) | (rw [hx23]; omega) | (rw [hx24]; omega) | (rw [hx25]; omega) | (rw [hx26]; omega) | (rw [hx27]; omega) | (rw [hx28]; omega) | (rw [hx29]; omega) | (rw [hx30]; omega) | (rw [hx31]; omega) | (rw [hx32]; omega) | (rw [hx33]; omega) | (rw [hx34]; omega) | (rw [hx35]; omega) | (rw [hx36]; omega) | (rw [hx37]; omega) | (rw [hx38]; omega) | (rw [hx39]; omega) | (rw [hx40]; omega) | (rw [hx41]; omega) | (rw [hx42]; omega) | (rw [hx43]; omega) | (rw [hx44]; omega) | (rw [hx45]; omega) | (rw [hx46]; omega) | (rw [hx47]; omega) | (rw [hx48]; omega) | (rw [hx49]; omega) | (rw [hx50]; omega) | (rw [hx51]; omega) | (rw [hx52]; omega) | (rw [hx53]; omega) | (rw [hx54]; omega) | (rw [hx55]; omega) | (rw [hx56]; omega) | (rw [hx57]; omega) | (rw [hx58]; omega) | (rw [hx59]; omega))) ?_
        rintro _ w1 ⟨_, rfl, hb, x, rfl, hx, hf⟩
        obtain ⟨F, hs1⟩ := hf.sat hs hb
        exact ⟨_, rfl, [ow x F], ⟨x, F, rfl, rfl, by first | exact hx | (simp only [hx3, hx4] at hx; exact hx)⟩, hs1⟩
      ·
        clear hs
        intro w R hs
        simp only [List.cons_append, List.nil_append] at hs
        exact Gives.rr' (by rfl) (Yr.alloc hs zt26) (fun _ _ ⟨b, hv, _, hs1⟩ => ⟨[box b 26 [.bool false, .slice none 0 0, .slice none 0 0, .slice none 0 0, .string ⟨#[]⟩]], ⟨b, hv, rfl⟩, hs1⟩)
      clear hs
      rintro _ _ ⟨x3, F3, rfl, rfl, hx3⟩
      rintro _ _ ⟨x4, F4, rfl, rfl, hx4⟩
      rintro _ _ ⟨x5, F5, rfl, rfl, hx5⟩
      rintro _ _ ⟨b6, rfl, rfl⟩
      intro w hs
      simp only [List.cons_append, List.nil_append] at hs
      refine WA.s (i := 6) (by kernel_rfl) (by rfl) (Yr.storeB hs (by rfl) (by rfl) (by rfl) (by repeat (first | exact Repl.here | apply Repl.there)) (by repeat (first | (apply SetAt.here; repeat (first | exact Over.nil | apply Over.cons)) | apply SetAt.there)) (by rfl) (by exact szf26)) (by rintro _ w hs; exact hs.only (by repeat (first | exact Sel.nil | (apply Sel.cons; (repeat (first | exact Ext.here | apply Ext.there)))))) ?_
      clear hs; rintro _ w hs
      refine WA.donen (by kernel_rfl) ?_
      refine WC.seq ?_
      refine WL.p (by rfl) (Yl.loadAB agg24 (by rfl) hs (by repeat (first | exact List.mem_cons_self | apply List.mem_cons_of_mem)) (by rfl) (by rfl)) ?_
      refine WL.call hs (by rfl) (Yc.func (by rfl) fn15) (c_laws_toPolicy _ _ (Ph.old h_aA hs) (by first | assumption | omega | (simp only [lsz] at *; omega) | (simp only [lsz, strsz, TPolicy.size, TCache.size, TAddr.size, TRequest.size, TEntry.size, TResponse.size, TLine.size] at *; omega) | (simp only [lsz_map, TPage.size, TBuilder.size, TNode.size, TToken.size, TTokenizer.size, TServer.size, TFile.size, TNet.size, TCache.size, TSheet.size, strsz] at *; omega) | (simp only [lsz_map, TPage.size, TBuilder.size, TNode.size, TToken.size, TTokenizer.size, TServer.size, TFile.size, TNet.size, TCache.size, TSheet.size, strsz, lsz] at *; omega))) ?_
      have hs0 := hs; clear hs; intro v w hb hR hs; clear hs
      obtain ⟨x7, rfl, hx7, hf7⟩ := hR
      obtain ⟨F7, hs⟩ := hf7.sat hs0 hb; clear hs0 hf7
      refine WL.r (by rfl) (Yr.alloc hs zt26) ?_
      clear hs; rintro _ w ⟨b8, rfl, hb, hs⟩; clear hb
      refine WL.s (Yr.storeB hs (by rfl) (by rfl) (by rfl) (by repeat (first | exact Repl.here | apply Repl.there)) (by repeat (first | (apply SetAt.here; repeat (first | exact Over.nil | apply Over.cons)) | apply SetAt.there)) (by rfl) (by exact szf26)) ?_
      clear hs; rintro _ w hs
      refine WL.next ?_
      refine WC.seq ?_
      refine WL.p (by rfl) (Yl.loadAB agg24 (by rfl) hs (by repeat (first | exact List.mem_cons_self | apply List.mem_cons_of_mem)) (by rfl) (by rfl)) ?_
      refine WL.call hs (by rfl) (Yc.func (by rfl) fn15) (c_laws_toPolicy _ _ (Ph.old h_aB hs) (by first | assumption | omega | (simp only [lsz] at *; omega) | (simp only [lsz, strsz, TPolicy.size, TCache.size, TAddr.size, TRequest.size, TEntry.size, TResponse.size, TLine.size] at *; omega) | (simp only [lsz_map, TPage.size, TBuilder.size, TNode.size, TToken.size, TTokenizer.size, TServer.size, TFile.size, TNet.size, TCache.size, TSheet.size, strsz] at *; omega) | (simp only [lsz_map, TPage.size, TBuilder.size, TNode.size, TToken.size, TTokenizer.size, TServer.size, TFile.size, TNet.size, TCache.size, TSheet.size, strsz, lsz] at *; omega))) ?_
      have hs0 := hs; clear hs; intro v w hb hR hs; clear hs
      obtain ⟨x9, rfl, hx9, hf9⟩ := hR
      obtain ⟨F9, hs⟩ := hf9.sat hs0 hb; clear hs0 hf9
      refine WL.r (by rfl) (Yr.alloc hs zt26) ?_
      clear hs; rintro _ w ⟨b10, rfl, hb, hs⟩; clear hb
      refine WL.s (Yr.storeB hs (by rfl) (by rfl) (by rfl) (by repeat (first | exact Repl.here | apply Repl.there)) (by repeat (first | (apply SetAt.here; repeat (first | exact Over.nil | apply Over.cons)) | apply SetAt.there)) (by rfl) (by exact szf26)) ?_
      clear hs; rintro _ w hs
      refine WL.next ?_
      refine WC.seq ?_
      refine WL.p (by rfl) (Yl.loadAB agg26 (by rfl) hs (by repeat (first | exact List.mem_cons_self | apply List.mem_cons_of_mem)) (by rfl) (by rfl)) ?_
      refine WL.p (by rfl) (Yl.loadAB agg26 (by rfl) hs (by repeat (first | exact List.mem_cons_self | apply List.mem_cons_of_mem)) (by rfl) (by rfl)) ?_
      refine WL.call hs (by rfl) (Yc.func (by rfl) fn16) (c_impl_NarrowPolicy _ _ _ (hs.okow (x := x7) (F := F7) (by repeat (first | exact List.mem_cons_self | apply List.mem_cons_of_mem))) (hs.okow (x := x9) (F := F9) (by repeat (first | exact List.mem_cons_self | apply List.mem_cons_of_mem))) (by first | (rw [hx2]; omega) | (rw [hx3]; omega) | (rw [hx4]; omega) | (rw [hx5]; omega) | (rw [hx6]; omega) | (rw [hx7]; omega) | (rw [hx8]; omega) | (rw [hx9]; omega) | (rw [hx10]; omega) | (rw [hx11]; omega) | (rw [hx12]; omega) | (rw [hx13]; omega) | (rw [hx14]; omega) | (rw [hx15]; omega) | (rw [hx16]; omega) | (rw [hx17]; omega) | (rw [hx18]; omega) | (rw [hx19]; omega) | (rw [hx20]; omega) | (rw [hx21]; omega) | (rw [hx22]; omega) | (rw [hx23]; omega) | (rw [hx24]; omega) | (rw [hx25]; omega) | (rw [hx26]; omega) | (rw [hx27]; omega) | (rw [hx28]; omega) | (rw [hx29]; omega) | (rw [hx30]; omega) | (rw [hx31]; omega) | (rw [hx32]; omega) | (rw [hx33]; omega) | (rw [hx34]; omega) | (rw [hx35]; omega) | (rw [hx36]; omega) | (rw [hx37]; omega) | (rw [hx38]; omega) | (rw [hx39]; omega) | (rw [hx40]; omega) | (rw [hx41]; omega) | (rw [hx42]; omega) | (rw [hx43]; omega) | (rw [hx44]; omega) | (rw [hx45]; omega) | (rw [hx46]; omega) | (rw [hx47]; omega) | (rw [hx48]; omega) | (rw [hx49]; omega) | (rw [hx50]; omega) | (rw [hx51]; omega) | (rw [hx52]; omega) | (rw [hx53]; omega) | (rw [hx54]; omega) | (rw [hx55]; omega) | (rw [hx56]; omega) | (rw [hx57]; omega) | (rw [hx58]; omega) | (rw [hx59]; omega)) (by first | (rw [hx2]; omega) | (rw [hx3]; omega) | (rw [hx4]; omega) | (rw [hx5]; omega) | (rw [hx6]; omega) | (rw [hx7]; omega) | (rw [hx8]; omega) | (rw [hx9]; omega) | (rw [hx10]; omega) | (rw [hx11]; omega) | (rw [hx12]; omega) | (rw [hx13]; omega) | (rw [hx14]; omega) | (rw [hx15]; omega) | (rw [hx16]; omega) | (rw [hx17]; omega) | (rw [hx18]; omega) | (rw [hx19]; omega) | (rw [hx20]; omega) | (rw [hx21]; omega) | (rw [hx22]; omega) | (rw [hx23]; omega) | (rw [hx24]; omega) | (rw [hx25]; omega) | (rw [hx26]; omega) | (rw [hx27]; omega) | (rw [hx28]; omega) | (rw [hx29]; omega) | (rw [hx30]; omega) | (rw [hx31]; omega) | (rw [hx32]; omega) | (rw [hx33]; omega) | (rw [hx34]; omega) | (rw [hx35]; omega) | (rw [hx36]; omega) | (rw [hx37]; omega) | (rw [hx38]; omega) | (rw [hx39]; omega) | (rw [hx40]; omega) | (rw [hx41]; omega) | (rw [hx42]; omega) | (rw [hx43]; omega) | (rw [hx44]; omega) | (rw [hx45]; omega) | (rw [hx46]; omega) | (rw [hx47]; omega) | (rw [hx48]; omega) | (rw [hx49]; omega) | (rw [hx50]; omega) | (rw [hx51]; omega) | (rw [hx52]; omega) | (rw [hx53]; omega) | (rw [hx54]; omega) | (rw [hx55]; omega) | (rw [hx56]; omega) | (rw [hx57]; omega) | (rw [hx58]; omega) | (rw [hx59]; omega))) ?_
      have hs0 := hs; clear hs; intro v w hb hR hs; clear hs
      obtain ⟨x11, rfl, hx11, hf11⟩ := hR
      obtain ⟨F11, hs⟩ := hf11.sat hs0 hb; clear hs0 hf11
      refine WL.r (by rfl) (Yr.alloc hs zt26) ?_
      clear hs; rintro _ w ⟨b12, rfl, hb, hs⟩; clear hb
      refine WL.s (Yr.storeB hs (by rfl) (by rfl) (by rfl) (by repeat (first | exact Repl.here | apply Repl.there)) (by repeat (first | (apply SetAt.here; repeat (first | exact Over.nil | apply Over.cons)) | apply SetAt.there)) (by rfl) (by exact szf26)) ?_
      clear hs; rintro _ w hs
      refine WL.next ?_
      refine WC.seq' ?_
      refine WC.seq ?_
      refine WL.p (by rfl) (Yl.loadAB agg26 (by rfl) hs (by repeat (first | exact List.mem_cons_self | apply List.mem_cons_of_mem)) (by rfl) (by rfl)) ?_
      refine WL.p (by rfl) (Yl.loadAB agg26 (by rfl) hs (by repeat (first | exact List.mem_cons_self | apply List.mem_cons_of_mem)) (by rfl) (by rfl)) ?_
      refine WL.callp hs (by rfl) (Yc.func (by rfl) fn17) (c_laws_eqPolicy _ _ _ (hs.okow (x := x11) (F := F11) (by repeat (first | exact List.mem_cons_self | apply List.mem_cons_of_mem))) (hs.okow (x := x5) (F := F5) (by repeat (first | exact List.mem_cons_self | apply List.mem_cons_of_mem)))) ?_
      clear hs; intro w hs
      refine WL.p (by rfl) (Yl.not (by rfl)) ?_
      refine WL.next ?_
      refine WC.condS (by rfl) (fun h3 => ?_) (fun h3 => ?_)
      ·
        replace h3 := not_eq_true h3
        replace h3 := of_decide_eq_false h3
        refine WC.seq ?_
        refine WL.p (by rfl) (Yl.assign (by rfl)) ?_
        refine WL.next ?_
        refine WC.ret ?_
        refine At.thenret ?_
        refine fin1' rfl (by rfl) ?_
        refine RetP.mk hs ?_
        try simp only [hx3, hx4, hx5, hx7, hx9, hx11] at h1
        try simp only [hx3, hx4, hx5, hx7, hx9, hx11] at h2
        try simp only [hx3, hx4, hx5, hx7, hx9, hx11] at h3
        all_goals (first | (simp only [hx3, hx4, hx5, hx7, hx9, hx11]; done) | (exfalso; omega) | simp_all)
      ·
        replace h3 := not_eq_false h3
        replace h3 := of_decide_eq_true h3
        refine WC.skipn ?_
        refine WC.seq' ?_
        refine WC.anyn mixed hs ?_
        clear hs; intro w hs
        refine WA.p (i := 0) (by rfl) (by kernel_rfl) (by kernel_rfl) (by kernel_rfl) (by rfl) (hs.only (by repeat (first | exact Sel.nil | (apply Sel.cons; (repeat (first | exact Ext.here | apply Ext.there)))))) (fun w hs => Yl.loadAB agg26 (by rfl) hs (by repeat (first | exact List.mem_cons_self | apply List.mem_cons_of_mem)) (by rfl) (by rfl)) ?_
        refine WA.p (i := 1) (by rfl) (by kernel_rfl) (by kernel_rfl) (by kernel_rfl) (by rfl) (hs.only (by repeat (first | exact Sel.nil | (apply Sel.cons; (repeat (first | exact Ext.here | apply Ext.there)))))) (fun w hs => Yl.loadAB agg24 (by rfl) hs (by repeat (first | exact List.mem_cons_self | apply List.mem_cons_of_mem)) (by rfl) (by rfl)) ?_
        refine WA.call2 (i := 2) hs (fun _ hs => hs.only (by repeat (first | exact Sel.nil | (apply Sel.cons; (repeat (first | exact Ext.here | apply Ext.there)))))) (by kernel_rfl) (by rfl) (by rfl) (Yc.func (by rfl) fn15) (c_laws_toPolicy _ _ (Ph.old h_aA hs) (by first | assumption | omega | (simp only [lsz] at *; omega) | (simp only [lsz, strsz, TPolicy.size, TCache.size, TAddr.size, TRequest.size, TEntry.size, TResponse.size, TLine.size] at *; omega) | (simp only [lsz_map, TPage.size, TBuilder.size, TNode.size, TToken.size, TTokenizer.size, TServer.size, TFile.size, TNet.size, TCache.size, TSheet.size, strsz] at *; omega) | (simp only [lsz_map, TPage.size, TBuilder.size, TNode.size, TToken.size, TTokenizer.size, TServer.size, TFile.size, TNet.size, TCache.size, TSheet.size, strsz, lsz] at *; omega))) ?_
        have hs0 := hs; clear hs; intro v w hb hR hs; clear hs
        obtain ⟨x13, rfl, hx13, hf13⟩ := hR
        obtain ⟨F13, hs⟩ := hf13.sat hs0 hb; clear hs0 hf13
        refine WA.callp2 (i := 3) hs (fun _ hs => hs.only (by repeat (first | exact Sel.nil | (apply Sel.cons; (repeat (first | exact Ext.here | apply Ext.there)))))) (by kernel_rfl) (by rfl) (by rfl) (Yc.func (by rfl) fn17) (c_laws_eqPolicy _ _ _ (hs.okow (x := x7) (F := F7) (by repeat (first | exact List.mem_cons_self | apply List.mem_cons_of_mem))) (hs.okow (x := x13) (F := F13) (by repeat (first | exact List.mem_cons_self | apply List.mem_cons_of_mem)))) ?_
        clear hs; intro w hs
        refine WA.p (i := 4) (by rfl) (by kernel_rfl) (by kernel_rfl) (by kernel_rfl) (by rfl) (hs.only (by repeat (first | exact Sel.nil | (apply Sel.cons; (repeat (first | exact Ext.here | apply Ext.there)))))) (fun w hs => Yl.not (by rfl)) ?_
        refine WA.donen (by kernel_rfl) ?_
        refine WC.condS (by rfl) (fun h4 => ?_) (fun h4 => ?_)
        ·
          replace h4 := not_eq_true h4
          replace h4 := of_decide_eq_false h4
          refine WC.seq ?_
          refine WL.p (by rfl) (Yl.assign (by rfl)) ?_
          refine WL.next ?_
          refine WC.ret ?_
          refine At.thenret ?_
          refine fin1' rfl (by rfl) ?_
          refine RetP.mk hs ?_
          try simp only [hx3, hx4, hx5, hx7, hx9, hx11, hx13] at h1
          try simp only [hx3, hx4, hx5, hx7, hx9, hx11, hx13] at h2
          try simp only [hx3, hx4, hx5, hx7, hx9, hx11, hx13] at h3
          try simp only [hx3, hx4, hx5, hx7, hx9, hx11, hx13] at h4
          all_goals (first | (simp only [hx3, hx4, hx5, hx7, hx9, hx11, hx13]; done) | (exfalso; omega) | simp_all)
        ·
          replace h4 := not_eq_false h4
          replace h4 := of_decide_eq_true h4
          refine WC.skipn ?_
          refine WC.seq' ?_
          refine WC.anyn mixed hs ?_
          clear hs; intro w hs
          refine WA.p (i := 0) (by rfl) (by kernel_rfl) (by kernel_rfl) (by kernel_rfl) (by rfl) (hs.only (by repeat (first | exact Sel.nil | (apply Sel.cons; (repeat (first | exact Ext.here | apply Ext.there)))))) (fun w hs => Yl.loadAB agg26 (by rfl) hs (by repeat (first | exact List.mem_cons_self | apply List.mem_cons_of_mem)) (by rfl) (by rfl)) ?_
          refine WA.p (i := 1) (by rfl) (by kernel_rfl) (by kernel_rfl) (by kernel_rfl) (by rfl) (hs.only (by repeat (first | exact Sel.nil | (apply Sel.cons; (repeat (first | exact Ext.here | apply Ext.there)))))) (fun w hs => Yl.loadAB agg24 (by rfl) hs (by repeat (first | exact List.mem_cons_self | apply List.mem_cons_of_mem)) (by rfl) (by rfl)) ?_
          refine WA.call2 (i := 2) hs (fun _ hs => hs.only (by repeat (first | exact Sel.nil | (apply Sel.cons; (repeat (first | exact Ext.here | apply Ext.there)))))) (by kernel_rfl) (by rfl) (by rfl) (Yc.func (by rfl) fn15) (c_laws_toPolicy _ _ (Ph.old h_aB hs) (by first | assumption | omega | (simp only [lsz] at *; omega) | (simp only [lsz, strsz, TPolicy.size, TCache.size, TAddr.size, TRequest.size, TEntry.size, TResponse.size, TLine.size] at *; omega) | (simp only [lsz_map, TPage.size, TBuilder.size, TNode.size, TToken.size, TTokenizer.size, TServer.size, TFile.size, TNet.size, TCache.size, TSheet.size, strsz] at *; omega) | (simp only [lsz_map, TPage.size, TBuilder.size, TNode.size, TToken.size, TTokenizer.size, TServer.size, TFile.size, TNet.size, TCache.size, TSheet.size, strsz, lsz] at *; omega))) ?_
          have hs0 := hs; clear hs; intro v w hb hR hs; clear hs
          obtain ⟨x14, rfl, hx14, hf14⟩ := hR
          obtain ⟨F14, hs⟩ := hf14.sat hs0 hb; clear hs0 hf14
          refine WA.callp2 (i := 3) hs (fun _ hs => hs.only (by repeat (first | exact Sel.nil | (apply Sel.cons; (repeat (first | exact Ext.here | apply Ext.there)))))) (by kernel_rfl) (by rfl) (by rfl) (Yc.func (by rfl) fn17) (c_laws_eqPolicy _ _ _ (hs.okow (x := x9) (F := F9) (by repeat (first | exact List.mem_cons_self | apply List.mem_cons_of_mem))) (hs.okow (x := x14) (F := F14) (by repeat (first | exact List.mem_cons_self | apply List.mem_cons_of_mem)))) ?_
          clear hs; intro w hs
          refine WA.p (i := 4) (by rfl) (by kernel_rfl) (by kernel_rfl) (by kernel_rfl) (by rfl) (hs.only (by repeat (first | exact Sel.nil | (apply Sel.cons; (repeat (first | exact Ext.here | apply Ext.there)))))) (fun w hs => Yl.not (by rfl)) ?_
          refine WA.donen (by kernel_rfl) ?_
          refine WC.condS (by rfl) (fun h5 => ?_) (fun h5 => ?_)
          ·
            replace h5 := not_eq_true h5
            replace h5 := of_decide_eq_false h5
            refine WC.seq ?_
            refine WL.p (by rfl) (Yl.assign (by rfl)) ?_
            refine WL.next ?_
            refine WC.ret ?_
            refine At.thenret ?_
            refine fin1' rfl (by rfl) ?_
            refine RetP.mk hs ?_
            try simp only [hx3, hx4, hx5, hx7, hx9, hx11, hx13, hx14] at h1
            try simp only [hx3, hx4, hx5, hx7, hx9, hx11, hx13, hx14] at h2
            try simp only [hx3, hx4, hx5, hx7, hx9, hx11, hx13, hx14] at h3
            try simp only [hx3, hx4, hx5, hx7, hx9, hx11, hx13, hx14] at h4
            try simp only [hx3, hx4, hx5, hx7, hx9, hx11, hx13, hx14] at h5
            all_goals (first | (simp only [hx3, hx4, hx5, hx7, hx9, hx11, hx13, hx14]; done) | (exfalso; omega) | simp_all)
          ·
            replace h5 := not_eq_false h5
            replace h5 := of_decide_eq_true h5
            refine WC.skipn ?_
            refine WC.seq ?_
            refine WL.p (by rfl) (Yl.assign (by rfl)) ?_
            refine WL.next ?_
            refine WC.seq ?_
            refine WL.p (by rfl) (Yl.loadAB agg26 (by rfl) hs (by repeat (first | exact List.mem_cons_self | apply List.mem_cons_of_mem)) (by rfl) (by rfl)) ?_
            refine WL.p (by rfl) (Yl.move (by rfl)) ?_
            refine WL.callm (a := x7) (F := F7) hs (by repeat (first | exact Sel.nil | (apply Sel.cons; (repeat (first | exact Ext.here | apply Ext.there))))) (by rfl) (Yc.func (by rfl) fn18) (c_laws_markPolicy x7 _ _ F7 (own_of hs (by repeat (first | exact List.mem_cons_self | apply List.mem_cons_of_mem))) (nodup_of hs (by repeat (first | exact List.mem_cons_self | apply List.mem_cons_of_mem))) (by first | assumption | omega | (simp only [lsz] at *; omega) | (simp only [lsz, strsz, TPolicy.size, TCache.size, TAddr.size, TRequest.size, TEntry.size, TResponse.size, TLine.size] at *; omega) | (simp only [lsz_map, TPage.size, TBuilder.size, TNode.size, TToken.size, TTokenizer.size, TServer.size, TFile.size, TNet.size, TCache.size, TSheet.size, strsz] at *; omega) | (simp only [lsz_map, TPage.size, TBuilder.size, TNode.size, TToken.size, TTokenizer.size, TServer.size, TFile.size, TNet.size, TCache.size, TSheet.size, strsz, lsz] at *; omega)) (by first | omega | (try simp only [hx3, hx4, hx5, hx7, hx9, hx11, hx13, hx14]); (have := costoPolicy_le aA.lg; have := costoPolicy_le aB.lg; have := costoPolicy_narrow aA.lg aB.lg; omega))) ?_
            clear hs; intro a15 F15 w he15 hq15 hs
            refine WL.p (by rfl) (Yl.assign (by rfl)) ?_
            refine WL.next ?_
            refine WC.seq ?_
            refine WL.p (by rfl) (Yl.loadAB agg26 (by rfl) hs (by repeat (first | exact List.mem_cons_self | apply List.mem_cons_of_mem)) (by rfl) (by rfl)) ?_
            refine WL.p (by rfl) (Yl.move (by rfl)) ?_
            refine WL.callm (a := x9) (F := F9) hs (by repeat (first | exact Sel.nil | (apply Sel.cons; (repeat (first | exact Ext.here | apply Ext.there))))) (by rfl) (Yc.func (by rfl) fn18) (c_laws_markPolicy x9 _ _ F9 (own_of hs (by repeat (first | exact List.mem_cons_self | apply List.mem_cons_of_mem))) (nodup_of hs (by repeat (first | exact List.mem_cons_self | apply List.mem_cons_of_mem))) (by first | assumption | omega | (simp only [lsz] at *; omega) | (simp only [lsz, strsz, TPolicy.size, TCache.size, TAddr.size, TRequest.size, TEntry.size, TResponse.size, TLine.size] at *; omega) | (simp only [lsz_map, TPage.size, TBuilder.size, TNode.size, TToken.size, TTokenizer.size, TServer.size, TFile.size, TNet.size, TCache.size, TSheet.size, strsz] at *; omega) | (simp only [lsz_map, TPage.size, TBuilder.size, TNode.size, TToken.size, TTokenizer.size, TServer.size, TFile.size, TNet.size, TCache.size, TSheet.size, strsz, lsz] at *; omega)) (by first | omega | (try simp only [hx3, hx4, hx5, hx7, hx9, hx11, hx13, hx14]); (have := costoPolicy_le aA.lg; have := costoPolicy_le aB.lg; have := costoPolicy_narrow aA.lg aB.lg; omega))) ?_
            clear hs; intro a16 F16 w he16 hq16 hs
            refine WL.p (by rfl) (Yl.assign (by rfl)) ?_
            refine WL.next ?_
            refine WC.seq' ?_
            refine WC.seq ?_
            refine WL.p (by rfl) (Yl.move (by rfl)) ?_
            refine WL.p (by rfl) (Yl.lss (by rfl) (by rfl)) ?_
            refine WL.p (by rfl) (Yl.move (by rfl)) ?_
            refine WL.split (d := 58) (by rfl) (fun h6 => ?_) (fun h6 => ?_)
            ·
              replace h6 := of_decide_eq_true h6
              refine WL.skip (d := 58) (by rfl) (by rfl) (by rfl) (by rfl) ?_
              refine WL.skip (d := 58) (by rfl) (by rfl) (by rfl) (by rfl) ?_
              refine WL.skip (d := 58) (by rfl) (by rfl) (by rfl) (by rfl) ?_
              refine WL.skip (d := 58) (by rfl) (by rfl) (by rfl) (by rfl) ?_
              refine WL.p (by rfl) (Yl.pickT (by rfl) (by rfl)) ?_
              refine WL.next ?_
              refine WC.condT (by rfl) ?_
              refine WC.seq ?_
              refine WL.p (by rfl) (Yl.assign (by rfl)) ?_
              refine WL.next ?_
              refine WC.ret ?_
              refine At.thenret ?_
              refine fin1' rfl (by rfl) ?_
              refine RetP.mk hs ?_
              try simp only [hx3, hx4, hx5, hx7, hx9, hx11, hx13, hx14, hq15, hq16] at h1
              try simp only [hx3, hx4, hx5, hx7, hx9, hx11, hx13, hx14, hq15, hq16] at h2
              try simp only [hx3, hx4, hx5, hx7, hx9, hx11, hx13, hx14, hq15, hq16] at h3
              try simp only [hx3, hx4, hx5, hx7, hx9, hx11, hx13, hx14, hq15, hq16] at h4
              try simp only [hx3, hx4, hx5, hx7, hx9, hx11, hx13, hx14, hq15, hq16] at h5
              try simp only [hx3, hx4, hx5, hx7, hx9, hx11, hx13, hx14, hq15, hq16] at h6
              all_goals (first | (simp only [hx3, hx4, hx5, hx7, hx9, hx11, hx13, hx14, hq15, hq16]; done) | (exfalso; omega) | simp_all)
            ·
              replace h6 := of_decide_eq_false h6
              refine WL.run (d := 58) (by rfl) (by rfl) ?_
              refine WL.p (by rfl) (Yl.loadAB agg26 (by rfl) hs (by repeat (first | exact List.mem_cons_self | apply List.mem_cons_of_mem)) (by rfl) (by rfl)) ?_
              refine WL.run (d := 58) (by rfl) (by rfl) ?_
              refine WL.p (by rfl) (Yl.loadAB agg26 (by rfl) hs (by repeat (first | exact List.mem_cons_self | apply List.mem_cons_of_mem)) (by rfl) (by rfl)) ?_
              refine WL.run (d := 58) (by rfl) (by rfl) ?_
              refine WL.callp hs (by rfl) (Yc.func (by rfl) fn17) (c_laws_eqPolicy _ _ _ (hs.okow (x := x11) (F := F11) (by repeat (first | exact List.mem_cons_self | apply List.mem_cons_of_mem))) (hs.okow (x := x5) (F := F5) (by repeat (first | exact List.mem_cons_self | apply List.mem_cons_of_mem)))) ?_
              clear hs; intro w hs
              refine WL.run (d := 58) (by rfl) (by rfl) ?_
              refine WL.p (by rfl) (Yl.not (by rfl)) ?_
              refine WL.p (by rfl) (Yl.pickF (by rfl) (by rfl)) ?_
              refine WL.next ?_
              refine WC.condS (by rfl) (fun h7 => ?_) (fun h7 => ?_)
              ·
                replace h7 := not_eq_true h7
                replace h7 := of_decide_eq_false h7
                refine WC.seq ?_
                refine WL.p (by rfl) (Yl.assign (by rfl)) ?_
                refine WL.next ?_
                refine WC.ret ?_
                refine At.thenret ?_
                refine fin1' rfl (by rfl) ?_
                refine RetP.mk hs ?_
                try simp only [hx3, hx4, hx5, hx7, hx9, hx11, hx13, hx14, hq15, hq16] at h1
                try simp only [hx3, hx4, hx5, hx7, hx9, hx11, hx13, hx14, hq15, hq16] at h2
                try simp only [hx3, hx4, hx5, hx7, hx9, hx11, hx13, hx14, hq15, hq16] at h3
                try simp only [hx3, hx4, hx5, hx7, hx9, hx11, hx13, hx14, hq15, hq16] at h4
                try simp only [hx3, hx4, hx5, hx7, hx9, hx11, hx13, hx14, hq15, hq16] at h5
                try simp only [hx3, hx4, hx5, hx7, hx9, hx11, hx13, hx14, hq15, hq16] at h6
                try simp only [hx3, hx4, hx5, hx7, hx9, hx11, hx13, hx14, hq15, hq16] at h7
                all_goals (first | (simp only [hx3, hx4, hx5, hx7, hx9, hx11, hx13, hx14, hq15, hq16]; done) | (exfalso; omega) | simp_all)
              ·
                replace h7 := not_eq_false h7
                replace h7 := of_decide_eq_true h7
                refine WC.skipn ?_
                refine WC.seq ?_
                refine WL.p (by rfl) (Yl.assign (by rfl)) ?_
                refine WL.next ?_
                refine WC.seq ?_
                refine WL.p (by rfl) (Yl.loadAB agg26 (by rfl) hs (by repeat (first | exact List.mem_cons_self | apply List.mem_cons_of_mem)) (by rfl) (by rfl)) ?_
                refine WL.p (by rfl) (Yl.move (by rfl)) ?_
                refine WL.callm (a := x11) (F := F11) hs (by repeat (first | exact Sel.nil | (apply Sel.cons; (repeat (first | exact Ext.here | apply Ext.there))))) (by rfl) (Yc.func (by rfl) fn18) (c_laws_markPolicy x11 _ _ F11 (own_of hs (by repeat (first | exact List.mem_cons_self | apply List.mem_cons_of_mem))) (nodup_of hs (by repeat (first | exact List.mem_cons_self | apply List.mem_cons_of_mem))) (by first | assumption | omega | (simp only [lsz] at *; omega) | (simp only [lsz, strsz, TPolicy.size, TCache.size, TAddr.size, TRequest.size, TEntry.size, TResponse.size, TLine.size] at *; omega) | (simp only [lsz_map, TPage.size, TBuilder.size, TNode.size, TToken.size, TTokenizer.size, TServer.size, TFile.size, TNet.size, TCache.size, TSheet.size, strsz] at *; omega) | (simp only [lsz_map, TPage.size, TBuilder.size, TNode.size, TToken.size, TTokenizer.size, TServer.size, TFile.size, TNet.size, TCache.size, TSheet.size, strsz, lsz] at *; omega)) (by first | omega | (try simp only [hx3, hx4, hx5, hx7, hx9, hx11, hx13, hx14]); (have := costoPolicy_le aA.lg; have := costoPolicy_le aB.lg; have := costoPolicy_narrow aA.lg aB.lg; omega))) ?_
                clear hs; intro a17 F17 w he17 hq17 hs
                refine WL.p (by rfl) (Yl.assign (by rfl)) ?_
                refine WL.next ?_
                refine WC.seq ?_
                refine WL.p (by rfl) (Yl.assign (by rfl)) ?_
                refine WL.next ?_
                refine WC.seq ?_
                refine WL.p (by rfl) (Yl.loadAB agg26 (by rfl) hs (by repeat (first | exact List.mem_cons_self | apply List.mem_cons_of_mem)) (by rfl) (by rfl)) ?_
                refine WL.p (by rfl) (Yl.move (by rfl)) ?_
                refine WL.callp hs (by rfl) (Yc.func (by rfl) fn19) (calls_conv (congrArg (fun z => ([z, _] : List Value).toArray) (show (.agg #[Bo a17.set, Sl.v a17.scripts, Sl.v a17.styles, Sl.v a17.images, S a17.nonce] : Value) = .agg #[Bo x11.set, Sl.v x11.scripts, Sl.v x11.styles, Sl.v x11.images, S x11.nonce] from congrArg (fun l => Value.agg l.toArray) he17)) (c_laws_heldPolicy a17 _ x11.lg _ (hs.okow (x := a17) (F := F17) (by repeat (first | exact List.mem_cons_self | apply List.mem_cons_of_mem))) (by first | assumption | omega | (simp only [lsz] at *; omega) | (simp only [lsz, strsz, TPolicy.size, TCache.size, TAddr.size, TRequest.size, TEntry.size, TResponse.size, TLine.size] at *; omega) | (simp only [lsz_map, TPage.size, TBuilder.size, TNode.size, TToken.size, TTokenizer.size, TServer.size, TFile.size, TNet.size, TCache.size, TSheet.size, strsz] at *; omega) | (simp only [lsz_map, TPage.size, TBuilder.size, TNode.size, TToken.size, TTokenizer.size, TServer.size, TFile.size, TNet.size, TCache.size, TSheet.size, strsz, lsz] at *; omega)) (by first | omega | (try simp only [hx3, hx4, hx5, hx7, hx9, hx11, hx13, hx14]); (have := costoPolicy_le aA.lg; have := costoPolicy_le aB.lg; have := costoPolicy_narrow aA.lg aB.lg; omega)) (by exact hq17))) ?_
                clear hs; intro w hs
                refine WL.p (by rfl) (Yl.assign (by rfl)) ?_
                refine WL.next ?_
                refine WC.seq' ?_
                refine WC.seq ?_
                refine WL.p (by rfl) (Yl.move (by rfl)) ?_
                refine WL.p (by rfl) (Yl.lss (by rfl) (by rfl)) ?_
                refine WL.next ?_
                refine WC.condS (by rfl) (fun h8 => ?_) (fun h8 => ?_)
                ·
                  replace h8 := of_decide_eq_true h8
                  refine WC.seq ?_
                  refine WL.p (by rfl) (Yl.assign (by rfl)) ?_
                  refine WL.next ?_
                  refine WC.ret ?_
                  refine At.thenret ?_
                  refine fin1' rfl (by rfl) ?_
                  refine RetP.mk hs ?_
                  try simp only [hx3, hx4, hx5, hx7, hx9, hx11, hx13, hx14, hq15, hq16, hq17] at h1
                  try simp only [hx3, hx4, hx5, hx7, hx9, hx11, hx13, hx14, hq15, hq16, hq17] at h2
                  try simp only [hx3, hx4, hx5, hx7, hx9, hx11, hx13, hx14, hq15, hq16, hq17] at h3
                  try simp only [hx3, hx4, hx5, hx7, hx9, hx11, hx13, hx14, hq15, hq16, hq17] at h4
                  try simp only [hx3, hx4, hx5, hx7, hx9, hx11, hx13, hx14, hq15, hq16, hq17] at h5
                  try simp only [hx3, hx4, hx5, hx7, hx9, hx11, hx13, hx14, hq15, hq16, hq17] at h6
                  try simp only [hx3, hx4, hx5, hx7, hx9, hx11, hx13, hx14, hq15, hq16, hq17] at h7
                  try simp only [hx3, hx4, hx5, hx7, hx9, hx11, hx13, hx14, hq15, hq16, hq17] at h8
                  all_goals (first | (simp only [hx3, hx4, hx5, hx7, hx9, hx11, hx13, hx14, hq15, hq16, hq17]; done) | (exfalso; omega) | simp_all)
                ·
                  replace h8 := of_decide_eq_false h8
                  refine WC.skipn ?_
                  refine WC.seq' ?_
                  refine WC.seq ?_
                  refine WL.p (by rfl) (Yl.move (by rfl)) ?_
                  refine WL.p (by rfl) (Yl.move (by rfl)) ?_
                  refine WL.p (by rfl) (Yl.nei (by rfl) (by rfl)) ?_
                  refine WL.next ?_
                  refine WC.condS (by rfl) (fun h9 => ?_) (fun h9 => ?_)
                  ·
                    replace h9 := not_eq_true h9
                    replace h9 := of_decide_eq_false h9
                    refine WC.seq ?_
                    refine WL.p (by rfl) (Yl.assign (by rfl)) ?_
                    refine WL.next ?_
                    refine WC.ret ?_
                    refine At.thenret ?_
                    refine fin1' rfl (by rfl) ?_
                    refine RetP.mk hs ?_
                    try simp only [hx3, hx4, hx5, hx7, hx9, hx11, hx13, hx14, hq15, hq16, hq17] at h1
                    try simp only [hx3, hx4, hx5, hx7, hx9, hx11, hx13, hx14, hq15, hq16, hq17] at h2
                    try simp only [hx3, hx4, hx5, hx7, hx9, hx11, hx13, hx14, hq15, hq16, hq17] at h3
                    try simp only [hx3, hx4, hx5, hx7, hx9, hx11, hx13, hx14, hq15, hq16, hq17] at h4
                    try simp only [hx3, hx4, hx5, hx7, hx9, hx11, hx13, hx14, hq15, hq16, hq17] at h5
                    try simp only [hx3, hx4, hx5, hx7, hx9, hx11, hx13, hx14, hq15, hq16, hq17] at h6
                    try simp only [hx3, hx4, hx5, hx7, hx9, hx11, hx13, hx14, hq15, hq16, hq17] at h7
                    try simp only [hx3, hx4, hx5, hx7, hx9, hx11, hx13, hx14, hq15, hq16, hq17] at h8
                    try simp only [hx3, hx4, hx5, hx7, hx9, hx11, hx13, hx14, hq15, hq16, hq17] at h9
                    all_goals (first | (simp only [hx3, hx4, hx5, hx7, hx9, hx11, hx13, hx14, hq15, hq16, hq17]; done) | (exfalso; omega) | simp_all)
                  ·
                    replace h9 := not_eq_false h9
                    replace h9 := of_decide_eq_true h9
                    refine WC.skipn ?_
                    refine WC.anyn mixed hs ?_
                    clear hs; intro w hs
                    refine WA.p (i := 0) (by rfl) (by kernel_rfl) (by kernel_rfl) (by kernel_rfl) (by rfl) (hs.only (by repeat (first | exact Sel.nil | (apply Sel.cons; (repeat (first | exact Ext.here | apply Ext.there)))))) (fun w hs => Yl.loadAB agg24 (by rfl) hs (by repeat (first | exact List.mem_cons_self | apply List.mem_cons_of_mem)) (by rfl) (by rfl)) ?_
                    refine WA.p (i := 2) (by rfl) (by kernel_rfl) (by kernel_rfl) (by kernel_rfl) (by rfl) (hs.only (by repeat (first | exact Sel.nil | (apply Sel.cons; (repeat (first | exact Ext.here | apply Ext.there)))))) (fun w hs => Yl.loadAB agg24 (by rfl) hs (by repeat (first | exact List.mem_cons_self | apply List.mem_cons_of_mem)) (by rfl) (by rfl)) ?_
                    refine WA.dag' [(⟨1, 76, [], (fun _ v cs => ∃ (x : PPolicy) (F : List Nat), v = .agg (Ph.enc x).toArray ∧ cs = [ow x F] ∧ x.lg = aA.lg)⟩, []), (⟨3, 78, [], (fun _ v cs => ∃ (x : PPolicy) (F : List Nat), v = .agg (Ph.enc x).toArray ∧ cs = [ow x F] ∧ x.lg = aB.lg)⟩, [0]), (⟨4, 79, [], (fun _ v cs => ∃ (x : PPolicy) (F : List Nat), v = .agg (Ph.enc x).toArray ∧ cs = [ow x F] ∧ x.lg = narrow (aA.lg) (aB.lg))⟩, [0, 1]), (⟨5, 13, [], (fun _ v cs => ∃ b, v = bp b 0 ∧ cs = [box b 26 [.bool false, .slice none 0 0, .slice none 0 0, .slice none 0 0, .string ⟨#[]⟩]])⟩, [])] [(0, _), (1, _), (2, _), (3, _), (4, _), (5, _), (6, _), (7, _), (8, _), (9, _), (10, _), (11, _), (12, _), (14, _), (15, _), (16, _), (17, _), (18, _), (19, _), (20, _), (21, _), (22, _), (23, _), (24, _), (25, _), (26, _), (27, _), (28, _), (29, _), (30, _), (31, _), (32, _), (33, _), (34, _), (35, _), (36, _), (37, _), (38, _), (39, _), (40, _), (41, _), (42, _), (43, _), (44, _), (45, _), (46, _), (47, _), (48, _), (49, _), (50, _), (51, _), (52, _), (53, _), (54, _), (55, _), (56, _), (57, _), (58, _), (59, _), (60, _), (61, _), (62, _), (63, _), (64, _), (65, _), (66, _), (67, _), (68, _), (69, _), (70, _), (71, _), (72, _), (73, _), (74, _), (75, _), (77, _)] ⟨by rfl, by rfl, by rfl, by rfl, by rfl, by rfl, by rfl, by rfl, by rfl, by rfl, by rfl, by rfl, by rfl, by rfl, by rfl, by rfl, by rfl, by rfl, by rfl, by rfl, by rfl, by rfl, by rfl, by rfl, by rfl, by rfl, by rfl, by rfl, by rfl, by rfl, by rfl, by rfl, by rfl, by rfl, by rfl, by rfl, by rfl, by rfl, by rfl, by rfl, by rfl, by rfl, by rfl, by rfl, by rfl, by rfl, by rfl, by rfl, by rfl, by rfl, by rfl, by rfl, by rfl, by rfl, by rfl, by rfl, by rfl, by rfl, by rfl, by rfl, by rfl, by rfl, by rfl, by rfl, by rfl, by rfl, by rfl, by rfl, by rfl, by rfl, by rfl, by rfl, by rfl, by rfl, by rfl, by rfl, trivial⟩ (by rfl) (by kernel_rfl) (by kernel_rfl) (by kernel_rfl) (by kernel_rfl) (by kernel_rfl) (by kernel_rfl) (fun _ hs => hs.only (by repeat (first | exact Sel.nil | (apply Sel.cons; (repeat (first | exact Ext.here | apply Ext.there)))))) hs (fuel := 1) ⟨⟨local_const, ?_⟩, ⟨local_const, ?_⟩, ⟨local_const, ?_⟩, ⟨local_const, ?_⟩, trivial⟩ ?_
                    ·
                      clear hs
                      intro w R hs
                      simp only [List.cons_append, List.nil_append] at hs
                      refine Gives.c' (by rfl) (Yc.func (by rfl) fn15) (c_laws_toPolicy _ _ (Ph.old h_aA hs) (by first | assumption | omega | (simp only [lsz] at *; omega) | (simp only [lsz, strsz, TPolicy.size, TCache.size, TAddr.size, TRequest.size, TEntry.size, TResponse.size, TLine.size] at *; omega) | (simp only [lsz_map, TPage.size, TBuilder.size, TNode.size, TToken.size, TTokenizer.size, TServer.size, TFile.size, TNet.size, TCache.size, TSheet.size, strsz] at *; omega) | (simp only [lsz_map, TPage.size, TBuilder.size, TNode.size, TToken.size, TTokenizer.size, TServer.size, TFile.size, TNet.size, TCache.size, TSheet.size, strsz, lsz] at *; omega))) ?_
                      rintro _ w1 ⟨_, rfl, hb, x, rfl, hx, hf⟩
                      obtain ⟨F, hs1⟩ := hf.sat hs hb
                      exact ⟨_, rfl, [ow x F], ⟨x, F, rfl, rfl, by first | exact hx | (simp only [hx3, hx4, hx5, hx7, hx9, hx11, hx13, hx14, hq15, hq16, hq17] at hx; exact hx)⟩, hs1⟩
                    ·
                      clear hs
                      rintro _ _ ⟨x18, F18, rfl, rfl, hx18⟩
                      intro w R hs
                      simp only [List.cons_append, List.nil_append] at hs
                      refine Gives.c' (by rfl) (Yc.func (by rfl) fn15) (c_laws_toPolicy _ _ (Ph.old h_aB hs) (by first | assumption | omega | (simp only [lsz] at *; omega) | (simp only [lsz, strsz, TPolicy.size, TCache.size, TAddr.size, TRequest.size, TEntry.size, TResponse.size, TLine.size] at *; omega) | (simp only [lsz_map, TPage.size, TBuilder.size, TNode.size, TToken.size, TTokenizer.size, TServer.size, TFile.size, TNet.size, TCache.size, TSheet.size, strsz] at *; omega) | (simp only [lsz_map, TPage.size, TBuilder.size, TNode.size, TToken.size, TTokenizer.size, TServer.size, TFile.size, TNet.size, TCache.size, TSheet.size, strsz, lsz] at *; omega))) ?_
                      rintro _ w1 ⟨_, rfl, hb, x, rfl, hx, hf⟩
                      obtain ⟨F, hs1⟩ := hf.sat hs hb
                      exact ⟨_, rfl, [ow x F], ⟨x, F, rfl, rfl, by first | exact hx | (simp only [hx3, hx4, hx5, hx7, hx9, hx11, hx13, hx14, hq15, hq16, hq17, hx18] at hx; exact hx)⟩, hs1⟩
                    ·
                      clear hs
                      rintro _ _ ⟨x18, F18, rfl, rfl, hx18⟩
                      rintro _ _ ⟨x19, F19, rfl, rfl, hx19⟩
                      intro w R hs
                      simp only [List.cons_append, List.nil_append] at hs
                      refine Gives.c' (by rfl) (Yc.func (by rfl) fn16) (c_impl_NarrowPolicy _ _ _ (hs.okow (x := x18) (F := F18) (by repeat (first | exact List.mem_cons_self | apply List.mem_cons_of_mem))) (hs.okow (x := x19) (F := F19) (by repeat (first | exact List.mem_cons_self | apply List.mem_cons_of_mem))) (by first | (rw [hx2]; omega) | (rw [hx3]; omega) | (rw [hx4]; omega) | (rw [hx5]; omega) | (rw [hx6]; omega) | (rw [hx7]; omega) | (rw [hx8]; omega) | (rw [hx9]; omega) | (rw [hx10]; omega) | (rw [hx11]; omega) | (rw [hx12]; omega) | (rw [hx13]; omega) | (rw [hx14]; omega) | (rw [hx15]; omega) | (rw [hx16]; omega) | (rw [hx17]; omega) | (rw [hx18]; omega) | (rw [hx19]; omega) | (rw [hx20]; omega) | (rw [hx21]; omega) | (rw [hx22]; omega) | (rw [hx23]; omega) | (rw [hx24]; omega) | (rw [hx25]; omega) | (rw [hx26]; omega) | (rw [hx27]; omega) | (rw [hx28]; omega) | (rw [hx29]; omega) | (rw [hx30]; omega) | (rw [hx31]; omega) | (rw [hx32]; omega) | (rw [hx33]; omega) | (rw [hx34]; omega) | (rw [hx35]; omega) | (rw [hx36]; omega) | (rw [hx37]; omega) | (rw [hx38]; omega) | (rw [hx39]; omega) | (rw [hx40]; omega) | (rw [hx41]; omega) | (rw [hx42]; omega) | (rw [hx43]; omega) | (rw [hx44]; omega) | (rw [hx45]; omega) | (rw [hx46]; omega) | (rw [hx47]; omega) | (rw [hx48]; omega) | (rw [hx49]; omega) | (rw [hx50]; omega) | (rw [hx51]; omega) | (rw [hx52]; omega) | (rw [hx53]; omega) | (rw [hx54]; omega) | (rw [hx55]; omega) | (rw [hx56]; omega) | (rw [hx57]; omega) | (rw [hx58]; omega) | (rw [hx59]; omega)) (by first | (rw [hx2]; omega) | (rw [hx3]; omega) | (rw [hx4]; omega) | (rw [hx5]; omega) | (rw [hx6]; omega) | (rw [hx7]; omega) | (rw [hx8]; omega) | (rw [hx9]; omega) | (rw [hx10]; omega) | (rw [hx11]; omega) | (rw [hx12]; omega) | (rw [hx13]; omega) | (rw [hx14]; omega) | (rw [hx15]; omega) | (rw [hx16]; omega) | (rw [hx17]; omega) | (rw [hx18]; omega) | (rw [hx19]; omega) | (rw [hx20]; omega) | (rw [hx21]; omega) | (rw [hx22]; omega) | (rw [hx23]; omega) | (rw [hx24]; omega) | (rw [hx25]; omega) | (rw [hx26]; omega) | (rw [hx27]; omega) | (rw [hx28]; omega) | (rw [hx29]; omega) | (rw [hx30]; omega) | (rw [hx31]; omega) | (rw [hx32]; omega) | (rw [hx33]; omega) | (rw [hx34]; omega) | (rw [hx35]; omega) | (rw [hx36]; omega) | (rw [hx37]; omega) | (rw [hx38]; omega) | (rw [hx39]; omega) | (rw [hx40]; omega) | (rw [hx41]; omega) | (rw [hx42]; omega) | (rw [hx43]; omega) | (rw [hx44]; omega) | (rw [hx45]; omega) | (rw [hx46]; omega) | (rw [hx47]; omega) | (rw [hx48]; omega) | (rw [hx49]; omega) | (rw [hx50]; omega) | (rw [hx51]; omega) | (rw [hx52]; omega) | (rw [hx53]; omega) | (rw [hx54]; omega) | (rw [hx55]; omega) | (rw [hx56]; omega) | (rw [hx57]; omega) | (rw [hx58]; omega) | (rw [hx59]; omega))) ?_
                      rintro _ w1 ⟨_, rfl, hb, x, rfl, hx, hf⟩
                      obtain ⟨F, hs1⟩ := hf.sat hs hb
                      exact ⟨_, rfl, [ow x F], ⟨x, F, rfl, rfl, by first | exact hx | (simp only [hx3, hx4, hx5, hx7, hx9, hx11, hx13, hx14, hq15, hq16, hq17, hx18, hx19] at hx; exact hx)⟩, hs1⟩
                    ·
                      clear hs
                      intro w R hs
                      simp only [List.cons_append, List.nil_append] at hs
                      exact Gives.rr' (by rfl) (Yr.alloc hs zt26) (fun _ _ ⟨b, hv, _, hs1⟩ => ⟨[box b 26 [.bool false, .slice none 0 0, .slice none 0 0, .slice none 0 0, .string ⟨#[]⟩]], ⟨b, hv, rfl⟩, hs1⟩)
                    clear hs
                    rintro _ _ ⟨x18, F18, rfl, rfl, hx18⟩
                    rintro _ _ ⟨x19, F19, rfl, rfl, hx19⟩
                    rintro _ _ ⟨x20, F20, rfl, rfl, hx20⟩
                    rintro _ _ ⟨b21, rfl, rfl⟩
                    intro w hs
                    simp only [List.cons_append, List.nil_append] at hs
                    refine WA.s (i := 6) (by kernel_rfl) (by rfl) (Yr.storeB hs (by rfl) (by rfl) (by rfl) (by repeat (first | exact Repl.here | apply Repl.there)) (by repeat (first | (apply SetAt.here; repeat (first | exact Over.nil | apply Over.cons)) | apply SetAt.there)) (by rfl) (by exact szf26)) (by rintro _ w hs; exact hs.only (by repeat (first | exact Sel.nil | (apply Sel.cons; (repeat (first | exact Ext.here | apply Ext.there)))))) ?_
                    clear hs; rintro _ w hs
                    refine WA.donen (by kernel_rfl) ?_
                    refine WC.seq' ?_
                    refine WC.seq ?_
                    refine WL.p (by rfl) (Yl.loadAB agg26 (by rfl) hs (by repeat (first | exact List.mem_cons_self | apply List.mem_cons_of_mem)) (by rfl) (by rfl)) ?_
                    refine WL.p (by rfl) (Yl.loadAB agg26 (by rfl) hs (by repeat (first | exact List.mem_cons_self | apply List.mem_cons_of_mem)) (by rfl) (by rfl)) ?_
                    refine WL.callp hs (by rfl) (Yc.func (by rfl) fn17) (c_laws_eqPolicy _ _ _ (hs.okow (x := x20) (F := F20) (by repeat (first | exact List.mem_cons_self | apply List.mem_cons_of_mem))) (hs.okow (x := x5) (F := F5) (by repeat (first | exact List.mem_cons_self | apply List.mem_cons_of_mem)))) ?_
                    clear hs; intro w hs
                    refine WL.p (by rfl) (Yl.not (by rfl)) ?_
                    refine WL.next ?_
                    refine WC.condS (by rfl) (fun h10 => ?_) (fun h10 => ?_)
                    ·
                      replace h10 := not_eq_true h10
                      replace h10 := of_decide_eq_false h10
                      refine WC.seq ?_
                      refine WL.p (by rfl) (Yl.assign (by rfl)) ?_
                      refine WL.next ?_
                      refine WC.ret ?_
                      refine At.thenret ?_
                      refine fin1' rfl (by rfl) ?_
                      refine RetP.mk hs ?_
                      try simp only [hx3, hx4, hx5, hx7, hx9, hx11, hx13, hx14, hq15, hq16, hq17, hx18, hx19, hx20] at h1
                      try simp only [hx3, hx4, hx5, hx7, hx9, hx11, hx13, hx14, hq15, hq16, hq17, hx18, hx19, hx20] at h2
                      try simp only [hx3, hx4, hx5, hx7, hx9, hx11, hx13, hx14, hq15, hq16, hq17, hx18, hx19, hx20] at h3
                      try simp only [hx3, hx4, hx5, hx7, hx9, hx11, hx13, hx14, hq15, hq16, hq17, hx18, hx19, hx20] at h4
                      try simp only [hx3, hx4, hx5, hx7, hx9, hx11, hx13, hx14, hq15, hq16, hq17, hx18, hx19, hx20] at h5
                      try simp only [hx3, hx4, hx5, hx7, hx9, hx11, hx13, hx14, hq15, hq16, hq17, hx18, hx19, hx20] at h6
                      try simp only [hx3, hx4, hx5, hx7, hx9, hx11, hx13, hx14, hq15, hq16, hq17, hx18, hx19, hx20] at h7
                      try simp only [hx3, hx4, hx5, hx7, hx9, hx11, hx13, hx14, hq15, hq16, hq17, hx18, hx19, hx20] at h8
                      try simp only [hx3, hx4, hx5, hx7, hx9, hx11, hx13, hx14, hq15, hq16, hq17, hx18, hx19, hx20] at h9
                      try simp only [hx3, hx4, hx5, hx7, hx9, hx11, hx13, hx14, hq15, hq16, hq17, hx18, hx19, hx20] at h10
                      all_goals (first | (simp only [hx3, hx4, hx5, hx7, hx9, hx11, hx13, hx14, hq15, hq16, hq17, hx18, hx19, hx20]; done) | (exfalso; omega) | simp_all)
                    ·
                      replace h10 := not_eq_false h10
                      replace h10 := of_decide_eq_true h10
                      refine WC.skipn ?_
                      refine WC.seq ?_
                      refine WL.p (by rfl) (Yl.assign (by rfl)) ?_
                      refine WL.next ?_
                      refine WC.seq ?_
                      refine WL.p (by rfl) (Yl.loadAB agg26 (by rfl) hs (by repeat (first | exact List.mem_cons_self | apply List.mem_cons_of_mem)) (by rfl) (by rfl)) ?_
                      refine WL.p (by rfl) (Yl.move (by rfl)) ?_
                      refine WL.callp hs (by rfl) (Yc.func (by rfl) fn19) (calls_conv (congrArg (fun z => ([z, _] : List Value).toArray) (show (.agg #[Bo a17.set, Sl.v a17.scripts, Sl.v a17.styles, Sl.v a17.images, S a17.nonce] : Value) = .agg #[Bo x11.set, Sl.v x11.scripts, Sl.v x11.styles, Sl.v x11.images, S x11.nonce] from congrArg (fun l => Value.agg l.toArray) he17)) (c_laws_heldPolicy a17 _ x11.lg _ (hs.okow (x := a17) (F := F17) (by repeat (first | exact List.mem_cons_self | apply List.mem_cons_of_mem))) (by first | assumption | omega | (simp only [lsz] at *; omega) | (simp only [lsz, strsz, TPolicy.size, TCache.size, TAddr.size, TRequest.size, TEntry.size, TResponse.size, TLine.size] at *; omega) | (simp only [lsz_map, TPage.size, TBuilder.size, TNode.size, TToken.size, TTokenizer.size, TServer.size, TFile.size, TNet.size, TCache.size, TSheet.size, strsz] at *; omega) | (simp only [lsz_map, TPage.size, TBuilder.size, TNode.size, TToken.size, TTokenizer.size, TServer.size, TFile.size, TNet.size, TCache.size, TSheet.size, strsz, lsz] at *; omega)) (by first | omega | (try simp only [hx3, hx4, hx5, hx7, hx9, hx11, hx13, hx14, hx18, hx19, hx20]); (have := costoPolicy_le aA.lg; have := costoPolicy_le aB.lg; have := costoPolicy_narrow aA.lg aB.lg; omega)) (by exact hq17))) ?_
                      clear hs; intro w hs
                      refine WL.p (by rfl) (Yl.assign (by rfl)) ?_
                      refine WL.next ?_
                      refine WC.seq' ?_
                      refine WC.seq ?_
                      refine WL.p (by rfl) (Yl.move (by rfl)) ?_
                      refine WL.p (by rfl) (Yl.lss (by rfl) (by rfl)) ?_
                      refine WL.next ?_
                      refine WC.condS (by rfl) (fun h11 => ?_) (fun h11 => ?_)
                      ·
                        replace h11 := of_decide_eq_true h11
                        refine WC.seq ?_
                        refine WL.p (by rfl) (Yl.assign (by rfl)) ?_
                        refine WL.next ?_
                        refine WC.ret ?_
                        refine At.thenret ?_
                        refine fin1' rfl (by rfl) ?_
                        refine RetP.mk hs ?_
                        try simp only [hx3, hx4, hx5, hx7, hx9, hx11, hx13, hx14, hq15, hq16, hq17, hx18, hx19, hx20] at h1
                        try simp only [hx3, hx4, hx5, hx7, hx9, hx11, hx13, hx14, hq15, hq16, hq17, hx18, hx19, hx20] at h2
                        try simp only [hx3, hx4, hx5, hx7, hx9, hx11, hx13, hx14, hq15, hq16, hq17, hx18, hx19, hx20] at h3
                        try simp only [hx3, hx4, hx5, hx7, hx9, hx11, hx13, hx14, hq15, hq16, hq17, hx18, hx19, hx20] at h4
                        try simp only [hx3, hx4, hx5, hx7, hx9, hx11, hx13, hx14, hq15, hq16, hq17, hx18, hx19, hx20] at h5
                        try simp only [hx3, hx4, hx5, hx7, hx9, hx11, hx13, hx14, hq15, hq16, hq17, hx18, hx19, hx20] at h6
                        try simp only [hx3, hx4, hx5, hx7, hx9, hx11, hx13, hx14, hq15, hq16, hq17, hx18, hx19, hx20] at h7
                        try simp only [hx3, hx4, hx5, hx7, hx9, hx11, hx13, hx14, hq15, hq16, hq17, hx18, hx19, hx20] at h8
                        try simp only [hx3, hx4, hx5, hx7, hx9, hx11, hx13, hx14, hq15, hq16, hq17, hx18, hx19, hx20] at h9
                        try simp only [hx3, hx4, hx5, hx7, hx9, hx11, hx13, hx14, hq15, hq16, hq17, hx18, hx19, hx20] at h10
                        try simp only [hx3, hx4, hx5, hx7, hx9, hx11, hx13, hx14, hq15, hq16, hq17, hx18, hx19, hx20] at h11
                        all_goals (first | (simp only [hx3, hx4, hx5, hx7, hx9, hx11, hx13, hx14, hq15, hq16, hq17, hx18, hx19, hx20]; done) | (exfalso; omega) | simp_all)
                      ·
                        replace h11 := of_decide_eq_false h11
                        refine WC.skipn ?_
                        refine WC.seq' ?_
                        refine WC.seq ?_
                        refine WL.p (by rfl) (Yl.move (by rfl)) ?_
                        refine WL.p (by rfl) (Yl.move (by rfl)) ?_
                        refine WL.p (by rfl) (Yl.nei (by rfl) (by rfl)) ?_
                        refine WL.next ?_
                        refine WC.condS (by rfl) (fun h12 => ?_) (fun h12 => ?_)
                        ·
                          replace h12 := not_eq_true h12
                          replace h12 := of_decide_eq_false h12
                          refine WC.seq ?_
                          refine WL.p (by rfl) (Yl.assign (by rfl)) ?_
                          refine WL.next ?_
                          refine WC.ret ?_
                          refine At.thenret ?_
                          refine fin1' rfl (by rfl) ?_
                          refine RetP.mk hs ?_
                          try simp only [hx3, hx4, hx5, hx7, hx9, hx11, hx13, hx14, hq15, hq16, hq17, hx18, hx19, hx20] at h1
                          try simp only [hx3, hx4, hx5, hx7, hx9, hx11, hx13, hx14, hq15, hq16, hq17, hx18, hx19, hx20] at h2
                          try simp only [hx3, hx4, hx5, hx7, hx9, hx11, hx13, hx14, hq15, hq16, hq17, hx18, hx19, hx20] at h3
                          try simp only [hx3, hx4, hx5, hx7, hx9, hx11, hx13, hx14, hq15, hq16, hq17, hx18, hx19, hx20] at h4
                          try simp only [hx3, hx4, hx5, hx7, hx9, hx11, hx13, hx14, hq15, hq16, hq17, hx18, hx19, hx20] at h5
                          try simp only [hx3, hx4, hx5, hx7, hx9, hx11, hx13, hx14, hq15, hq16, hq17, hx18, hx19, hx20] at h6
                          try simp only [hx3, hx4, hx5, hx7, hx9, hx11, hx13, hx14, hq15, hq16, hq17, hx18, hx19, hx20] at h7
                          try simp only [hx3, hx4, hx5, hx7, hx9, hx11, hx13, hx14, hq15, hq16, hq17, hx18, hx19, hx20] at h8
                          try simp only [hx3, hx4, hx5, hx7, hx9, hx11, hx13, hx14, hq15, hq16, hq17, hx18, hx19, hx20] at h9
                          try simp only [hx3, hx4, hx5, hx7, hx9, hx11, hx13, hx14, hq15, hq16, hq17, hx18, hx19, hx20] at h10
                          try simp only [hx3, hx4, hx5, hx7, hx9, hx11, hx13, hx14, hq15, hq16, hq17, hx18, hx19, hx20] at h11
                          try simp only [hx3, hx4, hx5, hx7, hx9, hx11, hx13, hx14, hq15, hq16, hq17, hx18, hx19, hx20] at h12
                          all_goals (first | (simp only [hx3, hx4, hx5, hx7, hx9, hx11, hx13, hx14, hq15, hq16, hq17, hx18, hx19, hx20]; done) | (exfalso; omega) | simp_all)
                        ·
                          replace h12 := not_eq_false h12
                          replace h12 := of_decide_eq_true h12
                          refine WC.skipn ?_
                          refine WC.seq ?_
                          refine WL.p (by rfl) (Yl.assign (by rfl)) ?_
                          refine WL.next ?_
                          refine WC.ret ?_
                          refine fin1' rfl (by rfl) ?_
                          refine RetP.mk hs ?_
                          try simp only [hx3, hx4, hx5, hx7, hx9, hx11, hx13, hx14, hq15, hq16, hq17, hx18, hx19, hx20] at h1
                          try simp only [hx3, hx4, hx5, hx7, hx9, hx11, hx13, hx14, hq15, hq16, hq17, hx18, hx19, hx20] at h2
                          try simp only [hx3, hx4, hx5, hx7, hx9, hx11, hx13, hx14, hq15, hq16, hq17, hx18, hx19, hx20] at h3
                          try simp only [hx3, hx4, hx5, hx7, hx9, hx11, hx13, hx14, hq15, hq16, hq17, hx18, hx19, hx20] at h4
                          try simp only [hx3, hx4, hx5, hx7, hx9, hx11, hx13, hx14, hq15, hq16, hq17, hx18, hx19, hx20] at h5
                          try simp only [hx3, hx4, hx5, hx7, hx9, hx11, hx13, hx14, hq15, hq16, hq17, hx18, hx19, hx20] at h6
                          try simp only [hx3, hx4, hx5, hx7, hx9, hx11, hx13, hx14, hq15, hq16, hq17, hx18, hx19, hx20] at h7
                          try simp only [hx3, hx4, hx5, hx7, hx9, hx11, hx13, hx14, hq15, hq16, hq17, hx18, hx19, hx20] at h8
                          try simp only [hx3, hx4, hx5, hx7, hx9, hx11, hx13, hx14, hq15, hq16, hq17, hx18, hx19, hx20] at h9
                          try simp only [hx3, hx4, hx5, hx7, hx9, hx11, hx13, hx14, hq15, hq16, hq17, hx18, hx19, hx20] at h10
                          try simp only [hx3, hx4, hx5, hx7, hx9, hx11, hx13, hx14, hq15, hq16, hq17, hx18, hx19, hx20] at h11
                          try simp only [hx3, hx4, hx5, hx7, hx9, hx11, hx13, hx14, hq15, hq16, hq17, hx18, hx19, hx20] at h12
                          all_goals (first | (simp only [hx3, hx4, hx5, hx7, hx9, hx11, hx13, hx14, hq15, hq16, hq17, hx18, hx19, hx20]; done) | (exfalso; omega) | simp_all)

end Go.Sw
