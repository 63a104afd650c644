/- Walks: what each function of the program returns, for every input. Printed by gen.py. -/
import Derived.Test.YtppjnohcfljmoaaGreatDoorW0
set_option linter.all false
namespace Go.Sw
open Go Go.RowKit Go.Proofs

theorem c_laws_markEntryS (a : (Sl TEntry)) (k : Int) (w : World) (F : List Nat) (hF : Own.own w a F) (hn : F.Nodup)  (hk0 : 0 ≤ k) (hk : k + ((costL (fun _ => 10) (a.l) : Nat) : Int) ≤ 100000000) : Calls Tryz.prog 151 [Sl.v a, I k].toArray w (RetM w a F (I (k + ((costL (fun _ => 10) (a.l) : Nat) : Int))) (fun a' => a'.l = mkL mkEntry (fun _ => 10) k (a.l))) := by
  have hw := (Own.ok hF : Sl.Ok w a).lt
  have hk2 := hk
  rw [costL_const] at hk2
  refine enterN 98 Tryz.func151 rfl rfl rfl ?_
  have hs := Sat.markStart hF hn
  refine WC.seq ?_
  refine WL.p (by rfl) (Yl.assign (by rfl)) ?_
  refine WL.next ?_
  refine WC.seq' ?_
  refine WC.seq ?_
  refine WL.p (by rfl) (Yl.assign (by rfl)) ?_
  refine WL.next ?_
  refine WC.block ?_
  refine WC.loopC (ι := Nat × Sl TEntry × List Nat × List TEntry) (fun ⟨n, s, F1, p⟩ => a.l.length - n) (fun ⟨n, s, F1, p⟩ => [(5, I (n : Int)), (1, I (k + ((10 * n : Nat) : Int))), (0, s.v)]) (fun ⟨n, s, F1, p⟩ => [ow s F1]) (fun ⟨n, s, F1, p⟩ => n ≤ a.l.length ∧ s.v = a.v ∧ p.length = n ∧ s.l = p ++ a.l.drop n ∧ p = mkL mkEntry (fun _ => 10) k (a.l.take n)) [(4, _)] (0, a, F, []) (hs.sel (D := [ow a F]) (by repeat (first | exact Sel.nil | (apply Sel.cons; (repeat (first | exact Ext.here | apply Ext.there)))))) ⟨by rfl, trivial⟩ ⟨by rfl, by exact congrArg (fun z => some (I z)) (by omega), by rfl, trivial⟩ ?_ ?_
  ·
    exact ⟨Nat.zero_le _, rfl, rfl, by simp, by simp [mkL]⟩
  clear hs; rintro ⟨n, s, F1, p⟩ w ⟨hJ1, hJ2, hJ3, hJ4, hJ5⟩ hs
  simp only [List.cons_append, List.nil_append] at hs
  refine WC.seq' ?_
  refine WC.seq ?_
  refine WL.p (by rfl) (Yl.move (by rfl)) ?_
  refine WL.p (by rfl) (Yl.move (by rfl)) ?_
  refine WL.p (by rfl) (Yl.len_sl slu34 (by rfl)) ?_
  refine WL.p (by rfl) (Yl.lss (by rfl) (by rfl)) ?_
  refine WL.next ?_
  refine WC.condS (by rfl) (fun h1 => ?_) (fun h1 => ?_)
  ·
    replace h1 := of_decide_eq_true h1
    have hsl : s.l.length = a.l.length := by rw [hJ4]; simp [hJ3]; omega
    obtain ⟨d, hd0⟩ := exists_get (l := a.l) (k := n) (by omega)
    have hd : s.l[n]? = some d := by rw [hJ4]; exact step_get hJ3 hd0
    have hkl : n < s.l.length := by omega
    refine WC.skipn ?_
    refine WC.seq' ?_
    refine WC.block ?_
    refine WC.seq ?_
    refine WL.p (by rfl) (Yl.move (by rfl)) ?_
    refine WL.p (by rfl) (Yl.move (by rfl)) ?_
    refine WL.p (by rfl) (Yl.move (by rfl)) ?_
    refine WL.callp hs (by rfl) (Yc.func (by rfl) fn128) (c_laws_markText _ _ (by omega)) ?_
    clear hs; intro w hs
    refine WL.p (by rfl) (Yl.indexAddr slt34 (by rfl) (by rfl) (hs.okow (x := s) (F := F1) (by repeat (first | exact List.mem_cons_self | apply List.mem_cons_of_mem))) (by rfl) (hd)) ?_
    refine WL.p (by rfl) (Yl.fieldAddr fa180_0 (by rfl)) ?_
    refine WL.s (Yr.storeP (s := s) (F := F1) (d := d) (u := (⟨(mkT (k + ((10 * n : Nat) : Int))), d.to, d.response, d.until_⟩ : TEntry)) (k := n) (j := 0) hs (by repeat (first | exact Sel.nil | (apply Sel.cons; (repeat (first | exact Ext.here | apply Ext.there))))) (by rfl) (by rfl) (by rfl) hd ⟨_, by rfl, by rfl⟩ (by repeat (first | (apply SetAt.here; repeat (first | exact Over.nil | apply Over.cons)) | apply SetAt.there)) (by exact own_part_flat ⟨(by first | exact (show WfS ((mkT (k + ((10 * n : Nat) : Int)))) from mkT_len (by omega)) | assumption | (refine Ph.old ?_ hs; assumption)), (Sl.Ok.elem (hs.okow (x := s) (F := F1) (by repeat (first | exact List.mem_cons_self | apply List.mem_cons_of_mem))) hd).to, (Sl.Ok.elem (hs.okow (x := s) (F := F1) (by repeat (first | exact List.mem_cons_self | apply List.mem_cons_of_mem))) hd).response, (Sl.Ok.elem (hs.okow (x := s) (F := F1) (by repeat (first | exact List.mem_cons_self | apply List.mem_cons_of_mem))) hd).until_⟩) (by rfl) (by exact szf9)) ?_
    clear hs; rintro _ w ⟨s1, _, rfl, hv1, hl1, hg1, hs⟩
    refine WL.next ?_
    refine WC.seq ?_
    refine WL.p (by rfl) (Yl.move (by rfl)) ?_
    refine WL.p (by rfl) (Yl.add (by rfl) (by rfl) (by omega)) ?_
    refine WL.p (by rfl) (Yl.assign (by rfl)) ?_
    refine WL.next ?_
    refine WC.seq ?_
    refine WL.p (by rfl) (Yl.move (by rfl)) ?_
    refine WL.p (by rfl) (Yl.move (by rfl)) ?_
    refine WL.p (by rfl) (Yl.move (by rfl)) ?_
    refine WL.callp hs (by rfl) (Yc.func (by rfl) fn128) (c_laws_markText _ _ (by omega)) ?_
    clear hs; intro w hs
    refine WL.p (by rfl) (Yl.indexAddrV slt34 (by rfl) hv1 (by rfl) (hs.okow (x := s1) (F := F1) (by repeat (first | exact List.mem_cons_self | apply List.mem_cons_of_mem))) (by rfl) (hg1)) ?_
    refine WL.p (by rfl) (Yl.fieldAddr fa180_1 (by rfl)) ?_
    refine WL.p (by rfl) (Yl.fieldAddr2 fa45_0 (by rfl)) ?_
    refine WL.s (Yr.storeP (s := s1) (F := F1) (d := (⟨(mkT (k + ((10 * n : Nat) : Int))), d.to, d.response, d.until_⟩ : TEntry)) (u := (⟨(mkT (k + ((10 * n : Nat) : Int))), ⟨(mkT ((k + ((10 * n : Nat) : Int)) + 1)), d.to.path⟩, d.response, d.until_⟩ : TEntry)) (k := n) (j := 1) hs (by repeat (first | exact Sel.nil | (apply Sel.cons; (repeat (first | exact Ext.here | apply Ext.there))))) (by rfl) (by rfl) (by rfl) hg1 ⟨_, by rfl, by rfl⟩ (by repeat (first | (apply SetAt.here; repeat (first | exact Over.nil | apply Over.cons)) | apply SetAt.there)) (by exact own_part_flat ⟨(Sl.Ok.elem (hs.okow (x := s1) (F := F1) (by repeat (first | exact List.mem_cons_self | apply List.mem_cons_of_mem))) hg1).top, ⟨(by first | exact (show WfS ((mkT ((k + ((10 * n : Nat) : Int)) + 1))) from mkT_len (by omega)) | assumption | (refine Ph.old ?_ hs; assumption)), (Sl.Ok.elem (hs.okow (x := s1) (F := F1) (by repeat (first | exact List.mem_cons_self | apply List.mem_cons_of_mem))) hg1).to.path⟩, (Sl.Ok.elem (hs.okow (x := s1) (F := F1) (by repeat (first | exact List.mem_cons_self | apply List.mem_cons_of_mem))) hg1).response, (Sl.Ok.elem (hs.okow (x := s1) (F := F1) (by repeat (first | exact List.mem_cons_self | apply List.mem_cons_of_mem))) hg1).until_⟩) (by rfl) (by exact szf9)) ?_
    clear hs; rintro _ w ⟨s2, _, rfl, hv2, hl2, hg2, hs⟩
    refine WL.next ?_
    refine WC.seq ?_
    refine WL.p (by rfl) (Yl.move (by rfl)) ?_
    refine WL.p (by rfl) (Yl.add (by rfl) (by rfl) (by omega)) ?_
    refine WL.p (by rfl) (Yl.assign (by rfl)) ?_
    refine WL.next ?_
    refine WC.seq ?_
    refine WL.p (by rfl) (Yl.move (by rfl)) ?_
    refine WL.p (by rfl) (Yl.move (by rfl)) ?_
    refine WL.p (by rfl) (Yl.move (by rfl)) ?_
    refine WL.callp hs (by rfl) (Yc.func (by rfl) fn128) (c_laws_markText _ _ (by omega)) ?_
    clear hs; intro w hs
    refine WL.p (by rfl) (Yl.indexAddrV slt34 (by rfl) (hv2.trans hv1) (by rfl) (hs.okow (x := s2) (F := F1) (by repeat (first | exact List.mem_cons_self | apply List.mem_cons_of_mem))) (by rfl) (hg2)) ?_
    refine WL.p (by rfl) (Yl.fieldAddr fa180_1 (by rfl)) ?_
    refine WL.p (by rfl) (Yl.fieldAddr2 fa45_1 (by rfl)) ?_
    refine WL.s (Yr.storeP (s := s2) (F := F1) (d := (⟨(mkT (k + ((10 * n : Nat) : Int))), ⟨(mkT ((k + ((10 * n : Nat) : Int)) + 1)), d.to.path⟩, d.response, d.until_⟩ : TEntry)) (u := (⟨(mkT (k + ((10 * n : Nat) : Int))), ⟨(mkT ((k + ((10 * n : Nat) : Int)) + 1)), (mkT (((k + ((10 * n : Nat) : Int)) + 1) + 1))⟩, d.response, d.until_⟩ : TEntry)) (k := n) (j := 2) hs (by repeat (first | exact Sel.nil | (apply Sel.cons; (repeat (first | exact Ext.here | apply Ext.there))))) (by rfl) (by rfl) (by rfl) hg2 ⟨_, by rfl, by rfl⟩ (by repeat (first | (apply SetAt.here; repeat (first | exact Over.nil | apply Over.cons)) | apply SetAt.there)) (by exact own_part_flat ⟨(Sl.Ok.elem (hs.okow (x := s2) (F := F1) (by repeat (first | exact List.mem_cons_self | apply List.mem_cons_of_mem))) hg2).top, ⟨(Sl.Ok.elem (hs.okow (x := s2) (F := F1) (by repeat (first | exact List.mem_cons_self | apply List.mem_cons_of_mem))) hg2).to.host, (by first | exact (show WfS ((mkT (((k + ((10 * n : Nat) : Int)) + 1) + 1))) from mkT_len (by omega)) | assumption | (refine Ph.old ?_ hs; assumption))⟩, (Sl.Ok.elem (hs.okow (x := s2) (F := F1) (by repeat (first | exact List.mem_cons_self | apply List.mem_cons_of_mem))) hg2).response, (Sl.Ok.elem (hs.okow (x := s2) (F := F1) (by repeat (first | exact List.mem_cons_self | apply List.mem_cons_of_mem))) hg2).until_⟩) (by rfl) (by exact szf9)) ?_
    clear hs; rintro _ w ⟨s3, _, rfl, hv3, hl3, hg3, hs⟩
    refine WL.next ?_
    refine WC.seq ?_
    refine WL.p (by rfl) (Yl.move (by rfl)) ?_
    refine WL.p (by rfl) (Yl.add (by rfl) (by rfl) (by omega)) ?_
    refine WL.p (by rfl) (Yl.assign (by rfl)) ?_
    refine WL.next ?_
    refine WC.seq ?_
    refine WL.p (by rfl) (Yl.move (by rfl)) ?_
    refine WL.p (by rfl) (Yl.move (by rfl)) ?_
    refine WL.p (by rfl) (Yl.move (by rfl)) ?_
    refine WL.p (by rfl) (Yl.indexAddrV slt34 (by rfl) (hv3.trans (hv2.trans hv1)) (by rfl) (hs.okow (x := s3) (F := F1) (by repeat (first | exact List.mem_cons_self | apply List.mem_cons_of_mem))) (by rfl) (hg3)) ?_
    refine WL.p (by rfl) (Yl.fieldAddr fa180_2 (by rfl)) ?_
    refine WL.p (by rfl) (Yl.fieldAddr2 fa41_0 (by rfl)) ?_
    refine WL.s (Yr.storeP (s := s3) (F := F1) (d := (⟨(mkT (k + ((10 * n : Nat) : Int))), ⟨(mkT ((k + ((10 * n : Nat) : Int)) + 1)), (mkT (((k + ((10 * n : Nat) : Int)) + 1) + 1))⟩, d.response, d.until_⟩ : TEntry)) (u := (⟨(mkT (k + ((10 * n : Nat) : Int))), ⟨(mkT ((k + ((10 * n : Nat) : Int)) + 1)), (mkT (((k + ((10 * n : Nat) : Int)) + 1) + 1))⟩, ⟨((((k + ((10 * n : Nat) : Int)) + 1) + 1) + 1), d.response.kind, d.response.body, d.response.age, d.response.shares, d.response.policy⟩, d.until_⟩ : TEntry)) (k := n) (j := 3) hs (by repeat (first | exact Sel.nil | (apply Sel.cons; (repeat (first | exact Ext.here | apply Ext.there))))) (by rfl) (by rfl) (by rfl) hg3 ⟨_, by rfl, by rfl⟩ (by repeat (first | (apply SetAt.here; repeat (first | exact Over.nil | apply Over.cons)) | apply SetAt.there)) (by exact own_part_flat ⟨(Sl.Ok.elem (hs.okow (x := s3) (F := F1) (by repeat (first | exact List.mem_cons_self | apply List.mem_cons_of_mem))) hg3).top, (Sl.Ok.elem (hs.okow (x := s3) (F := F1) (by repeat (first | exact List.mem_cons_self | apply List.mem_cons_of_mem))) hg3).to, ⟨(by exact (show WfI (((((k + ((10 * n : Nat) : Int)) + 1) + 1) + 1)) from ⟨by omega, by omega⟩)), (Sl.Ok.elem (hs.okow (x := s3) (F := F1) (by repeat (first | exact List.mem_cons_self | apply List.mem_cons_of_mem))) hg3).response.kind, (Sl.Ok.elem (hs.okow (x := s3) (F := F1) (by repeat (first | exact List.mem_cons_self | apply List.mem_cons_of_mem))) hg3).response.body, (Sl.Ok.elem (hs.okow (x := s3) (F := F1) (by repeat (first | exact List.mem_cons_self | apply List.mem_cons_of_mem))) hg3).response.age, (Sl.Ok.elem (hs.okow (x := s3) (F := F1) (by repeat (first | exact List.mem_cons_self | apply List.mem_cons_of_mem))) hg3).response.shares, (Sl.Ok.elem (hs.okow (x := s3) (F := F1) (by repeat (first | exact List.mem_cons_self | apply List.mem_cons_of_mem))) hg3).response.policy⟩, (Sl.Ok.elem (hs.okow (x := s3) (F := F1) (by repeat (first | exact List.mem_cons_self | apply List.mem_cons_of_mem))) hg3).until_⟩) (by rfl) (by exact szf3)) ?_
    clear hs; rintro _ w ⟨s4, _, rfl, hv4, hl4, hg4, hs⟩
    refine WL.next ?_
    refine WC.seq ?_
    refine WL.p (by rfl) (Yl.move (by rfl)) ?_
    refine WL.p (by rfl) (Yl.add (by rfl) (by rfl) (by omega)) ?_
    refine WL.p (by rfl) (Yl.assign (by rfl)) ?_
    refine WL.next ?_
    refine WC.seq ?_
    refine WL.p (by rfl) (Yl.move (by rfl)) ?_
    refine WL.p (by rfl) (Yl.move (by rfl)) ?_
    refine WL.p (by rfl) (Yl.move (by rfl)) ?_
    refine WL.p (by rfl) (Yl.indexAddrV slt34 (by rfl) (hv4.trans (hv3.trans (hv2.trans hv1))) (by rfl) (hs.okow (x := s4) (F := F1) (by repeat (first | exact List.mem_cons_self | apply List.mem_cons_of_mem))) (by rfl) (hg4)) ?_
    refine WL.p (by rfl) (Yl.fieldAddr fa180_2 (by rfl)) ?_
    refine WL.p (by rfl) (Yl.fieldAddr2 fa41_1 (by rfl)) ?_
    refine WL.s (Yr.storeP (s := s4) (F := F1) (d := (⟨(mkT (k + ((10 * n : Nat) : Int))), ⟨(mkT ((k + ((10 * n : Nat) : Int)) + 1)), (mkT (((k + ((10 * n : Nat) : Int)) + 1) + 1))⟩, ⟨((((k + ((10 * n : Nat) : Int)) + 1) + 1) + 1), d.response.kind, d.response.body, d.response.age, d.response.shares, d.response.policy⟩, d.until_⟩ : TEntry)) (u := (⟨(mkT (k + ((10 * n : Nat) : Int))), ⟨(mkT ((k + ((10 * n : Nat) : Int)) + 1)), (mkT (((k + ((10 * n : Nat) : Int)) + 1) + 1))⟩, ⟨((((k + ((10 * n : Nat) : Int)) + 1) + 1) + 1), (((((k + ((10 * n : Nat) : Int)) + 1) + 1) + 1) + 1), d.response.body, d.response.age, d.response.shares, d.response.policy⟩, d.until_⟩ : TEntry)) (k := n) (j := 4) hs (by repeat (first | exact Sel.nil | (apply Sel.cons; (repeat (first | exact Ext.here | apply Ext.there))))) (by rfl) (by rfl) (by rfl) hg4 ⟨_, by rfl, by rfl⟩ (by repeat (first | (apply SetAt.here; repeat (first | exact Over.nil | apply Over.cons)) | apply SetAt.there)) (by exact own_part_flat ⟨(Sl.Ok.elem (hs.okow (x := s4) (F := F1) (by repeat (first | exact List.mem_cons_self | apply List.mem_cons_of_mem))) hg4).top, (Sl.Ok.elem (hs.okow (x := s4) (F := F1) (by repeat (first | exact List.mem_cons_self | apply List.mem_cons_of_mem))) hg4).to, ⟨(Sl.Ok.elem (hs.okow (x := s4) (F := F1) (by repeat (first | exact List.mem_cons_self | apply List.mem_cons_of_mem))) hg4).response.status, (by exact (show WfI ((((((k + ((10 * n : Nat) : Int)) + 1) + 1) + 1) + 1)) from ⟨by omega, by omega⟩)), (Sl.Ok.elem (hs.okow (x := s4) (F := F1) (by repeat (first | exact List.mem_cons_self | apply List.mem_cons_of_mem))) hg4).response.body, (Sl.Ok.elem (hs.okow (x := s4) (F := F1) (by repeat (first | exact List.mem_cons_self | apply List.mem_cons_of_mem))) hg4).response.age, (Sl.Ok.elem (hs.okow (x := s4) (F := F1) (by repeat (first | exact List.mem_cons_self | apply List.mem_cons_of_mem))) hg4).response.shares, (Sl.Ok.elem (hs.okow (x := s4) (F := F1) (by repeat (first | exact List.mem_cons_self | apply List.mem_cons_of_mem))) hg4).response.policy⟩, (Sl.Ok.elem (hs.okow (x := s4) (F := F1) (by repeat (first | exact List.mem_cons_self | apply List.mem_cons_of_mem))) hg4).until_⟩) (by rfl) (by exact szf3)) ?_
    clear hs; rintro _ w ⟨s5, _, rfl, hv5, hl5, hg5, hs⟩
    refine WL.next ?_
    refine WC.seq ?_
    refine WL.p (by rfl) (Yl.move (by rfl)) ?_
    refine WL.p (by rfl) (Yl.add (by rfl) (by rfl) (by omega)) ?_
    refine WL.p (by rfl) (Yl.assign (by rfl)) ?_
    refine WL.next ?_
    refine WC.seq ?_
    refine WL.p (by rfl) (Yl.move (by rfl)) ?_
    refine WL.p (by rfl) (Yl.move (by rfl)) ?_
    refine WL.p (by rfl) (Yl.move (by rfl)) ?_
    refine WL.callp hs (by rfl) (Yc.func (by rfl) fn128) (c_laws_markText _ _ (by omega)) ?_
    clear hs; intro w hs
    refine WL.p (by rfl) (Yl.indexAddrV slt34 (by rfl) (hv5.trans (hv4.trans (hv3.trans (hv2.trans hv1)))) (by rfl) (hs.okow (x := s5) (F := F1) (by repeat (first | exact List.mem_cons_self | apply List.mem_cons_of_mem))) (by rfl) (hg5)) ?_
    refine WL.p (by rfl) (Yl.fieldAddr fa180_2 (by rfl)) ?_
    refine WL.p (by rfl) (Yl.fieldAddr2 fa41_2 (by rfl)) ?_
    refine WL.s (Yr.storeP (s := s5) (F := F1) (d := (⟨(mkT (k + ((10 * n : Nat) : Int))), ⟨(mkT ((k + ((10 * n : Nat) : Int)) + 1)), (mkT (((k + ((10 * n : Nat) : Int)) + 1) + 1))⟩, ⟨((((k + ((10 * n : Nat) : Int)) + 1) + 1) + 1), (((((k + ((10 * n : Nat) : Int)) + 1) + 1) + 1) + 1), d.response.body, d.response.age, d.response.shares, d.response.policy⟩, d.until_⟩ : TEntry)) (u := (⟨(mkT (k + ((10 * n : Nat) : Int))), ⟨(mkT ((k + ((10 * n : Nat) : Int)) + 1)), (mkT (((k + ((10 * n : Nat) : Int)) + 1) + 1))⟩, ⟨((((k + ((10 * n : Nat) : Int)) + 1) + 1) + 1), (((((k + ((10 * n : Nat) : Int)) + 1) + 1) + 1) + 1), (mkT ((((((k + ((10 * n : Nat) : Int)) + 1) + 1) + 1) + 1) + 1)), d.response.age, d.response.shares, d.response.policy⟩, d.until_⟩ : TEntry)) (k := n) (j := 5) hs (by repeat (first | exact Sel.nil | (apply Sel.cons; (repeat (first | exact Ext.here | apply Ext.there))))) (by rfl) (by rfl) (by rfl) hg5 ⟨_, by rfl, by rfl⟩ (by repeat (first | (apply SetAt.here; repeat (first | exact Over.nil | apply Over.cons)) | apply SetAt.there)) (by exact own_part_flat ⟨(Sl.Ok.elem (hs.okow (x := s5) (F := F1) (by repeat (first | exact List.mem_cons_self | apply List.mem_cons_of_mem))) hg5).top, (Sl.Ok.elem (hs.okow (x := s5) (F := F1) (by repeat (first | exact List.mem_cons_self | apply List.mem_cons_of_mem))) hg5).to, ⟨(Sl.Ok.elem (hs.okow (x := s5) (F := F1) (by repeat (first | exact List.mem_cons_self | apply List.mem_cons_of_mem))) hg5).response.status, (Sl.Ok.elem (hs.okow (x := s5) (F := F1) (by repeat (first | exact List.mem_cons_self | apply List.mem_cons_of_mem))) hg5).response.kind, (by first | exact (show WfS ((mkT ((((((k + ((10 * n : Nat) : Int)) + 1) + 1) + 1) + 1) + 1))) from mkT_len (by omega)) | assumption | (refine Ph.old ?_ hs; assumption)), (Sl.Ok.elem (hs.okow (x := s5) (F := F1) (by repeat (first | exact List.mem_cons_self | apply List.mem_cons_of_mem))) hg5).response.age, (Sl.Ok.elem (hs.okow (x := s5) (F := F1) (by repeat (first | exact List.mem_cons_self | apply List.mem_cons_of_mem))) hg5).response.shares, (Sl.Ok.elem (hs.okow (x := s5) (F := F1) (by repeat (first | exact List.mem_cons_self | apply List.mem_cons_of_mem))) hg5).response.policy⟩, (Sl.Ok.elem (hs.okow (x := s5) (F := F1) (by repeat (first | exact List.mem_cons_self | apply List.mem_cons_of_mem))) hg5).until_⟩) (by rfl) (by exact szf9)) ?_
    clear hs; rintro _ w ⟨s6, _, rfl, hv6, hl6, hg6, hs⟩
    refine WL.next ?_
    refine WC.seq ?_
    refine WL.p (by rfl) (Yl.move (by rfl)) ?_
    refine WL.p (by rfl) (Yl.add (by rfl) (by rfl) (by omega)) ?_
    refine WL.p (by rfl) (Yl.assign (by rfl)) ?_
    refine WL.next ?_
    refine WC.seq ?_
    refine WL.p (by rfl) (Yl.move (by rfl)) ?_
    refine WL.p (by rfl) (Yl.move (by rfl)) ?_
    refine WL.p (by rfl) (Yl.move (by rfl)) ?_
    refine WL.p (by rfl) (Yl.indexAddrV slt34 (by rfl) (hv6.trans (hv5.trans (hv4.trans (hv3.trans (hv2.trans hv1))))) (by rfl) (hs.okow (x := s6) (F := F1) (by repeat (first | exact List.mem_cons_self | apply List.mem_cons_of_mem))) (by rfl) (hg6)) ?_
    refine WL.p (by rfl) (Yl.fieldAddr fa180_2 (by rfl)) ?_
    refine WL.p (by rfl) (Yl.fieldAddr2 fa41_3 (by rfl)) ?_
    refine WL.s (Yr.storeP (s := s6) (F := F1) (d := (⟨(mkT (k + ((10 * n : Nat) : Int))), ⟨(mkT ((k + ((10 * n : Nat) : Int)) + 1)), (mkT (((k + ((10 * n : Nat) : Int)) + 1) + 1))⟩, ⟨((((k + ((10 * n : Nat) : Int)) + 1) + 1) + 1), (((((k + ((10 * n : Nat) : Int)) + 1) + 1) + 1) + 1), (mkT ((((((k + ((10 * n : Nat) : Int)) + 1) + 1) + 1) + 1) + 1)), d.response.age, d.response.shares, d.response.policy⟩, d.until_⟩ : TEntry)) (u := (⟨(mkT (k + ((10 * n : Nat) : Int))), ⟨(mkT ((k + ((10 * n : Nat) : Int)) + 1)), (mkT (((k + ((10 * n : Nat) : Int)) + 1) + 1))⟩, ⟨((((k + ((10 * n : Nat) : Int)) + 1) + 1) + 1), (((((k + ((10 * n : Nat) : Int)) + 1) + 1) + 1) + 1), (mkT ((((((k + ((10 * n : Nat) : Int)) + 1) + 1) + 1) + 1) + 1)), (((((((k + ((10 * n : Nat) : Int)) + 1) + 1) + 1) + 1) + 1) + 1), d.response.shares, d.response.policy⟩, d.until_⟩ : TEntry)) (k := n) (j := 6) hs (by repeat (first | exact Sel.nil | (apply Sel.cons; (repeat (first | exact Ext.here | apply Ext.there))))) (by rfl) (by rfl) (by rfl) hg6 ⟨_, by rfl, by rfl⟩ (by repeat (first | (apply SetAt.here; repeat (first | exact Over.nil | apply Over.cons)) | apply SetAt.there)) (by exact own_part_flat ⟨(Sl.Ok.elem (hs.okow (x := s6) (F := F1) (by repeat (first | exact List.mem_cons_self | apply List.mem_cons_of_mem))) hg6).top, (Sl.Ok.elem (hs.okow (x := s6) (F := F1) (by repeat (first | exact List.mem_cons_self | apply List.mem_cons_of_mem))) hg6).to, ⟨(Sl.Ok.elem (hs.okow (x := s6) (F := F1) (by repeat (first | exact List.mem_cons_self | apply List.mem_cons_of_mem))) hg6).response.status, (Sl.Ok.elem (hs.okow (x := s6) (F := F1) (by repeat (first | exact List.mem_cons_self | apply List.mem_cons_of_mem))) hg6).response.kind, (Sl.Ok.elem (hs.okow (x := s6) (F := F1) (by repeat (first | exact List.mem_cons_self | apply List.mem_cons_of_mem))) hg6).response.body, (by exact (show WfI ((((((((k + ((10 * n : Nat) : Int)) + 1) + 1) + 1) + 1) + 1) + 1)) from ⟨by omega, by omega⟩)), (Sl.Ok.elem (hs.okow (x := s6) (F := F1) (by repeat (first | exact List.mem_cons_self | apply List.mem_cons_of_mem))) hg6).response.shares, (Sl.Ok.elem (hs.okow (x := s6) (F := F1) (by repeat (first | exact List.mem_cons_self | apply List.mem_cons_of_mem))) hg6).response.policy⟩, (Sl.Ok.elem (hs.okow (x := s6) (F := F1) (by repeat (first | exact List.mem_cons_self | apply List.mem_cons_of_mem))) hg6).until_⟩) (by rfl) (by exact szf3)) ?_
    clear hs; rintro _ w ⟨s7, _, rfl, hv7, hl7, hg7, hs⟩
    refine WL.next ?_
    refine WC.seq ?_
    refine WL.p (by rfl) (Yl.move (by rfl)) ?_
    refine WL.p (by rfl) (Yl.add (by rfl) (by rfl) (by omega)) ?_
    refine WL.p (by rfl) (Yl.assign (by rfl)) ?_
    refine WL.next ?_
    refine WC.seq ?_
    refine WL.p (by rfl) (Yl.move (by rfl)) ?_
    refine WL.p (by rfl) (Yl.move (by rfl)) ?_
    refine WL.p (by rfl) (Yl.move (by rfl)) ?_
    refine WL.p (by rfl) (Yl.remw (by rfl) (by rfl) (by decide)) ?_
    refine WL.p (by rfl) (Yl.eqi (by rfl) (by rfl)) ?_
    refine WL.p (by rfl) (Yl.indexAddrV slt34 (by rfl) (hv7.trans (hv6.trans (hv5.trans (hv4.trans (hv3.trans (hv2.trans hv1)))))) (by rfl) (hs.okow (x := s7) (F := F1) (by repeat (first | exact List.mem_cons_self | apply List.mem_cons_of_mem))) (by rfl) (hg7)) ?_
    refine WL.p (by rfl) (Yl.fieldAddr fa180_2 (by rfl)) ?_
    refine WL.p (by rfl) (Yl.fieldAddr2 fa41_4 (by rfl)) ?_
    refine WL.s (Yr.storeP (s := s7) (F := F1) (d := (⟨(mkT (k + ((10 * n : Nat) : Int))), ⟨(mkT ((k + ((10 * n : Nat) : Int)) + 1)), (mkT (((k + ((10 * n : Nat) : Int)) + 1) + 1))⟩, ⟨((((k + ((10 * n : Nat) : Int)) + 1) + 1) + 1), (((((k + ((10 * n : Nat) : Int)) + 1) + 1) + 1) + 1), (mkT ((((((k + ((10 * n : Nat) : Int)) + 1) + 1) + 1) + 1) + 1)), (((((((k + ((10 * n : Nat) : Int)) + 1) + 1) + 1) + 1) + 1) + 1), d.response.shares, d.response.policy⟩, d.until_⟩ : TEntry)) (u := (⟨(mkT (k + ((10 * n : Nat) : Int))), ⟨(mkT ((k + ((10 * n : Nat) : Int)) + 1)), (mkT (((k + ((10 * n : Nat) : Int)) + 1) + 1))⟩, ⟨((((k + ((10 * n : Nat) : Int)) + 1) + 1) + 1), (((((k + ((10 * n : Nat) : Int)) + 1) + 1) + 1) + 1), (mkT ((((((k + ((10 * n : Nat) : Int)) + 1) + 1) + 1) + 1) + 1)), (((((((k + ((10 * n : Nat) : Int)) + 1) + 1) + 1) + 1) + 1) + 1), (decide ((Int.tmod ((((((((k + ((10 * n : Nat) : Int)) + 1) + 1) + 1) + 1) + 1) + 1) + 1) 3) = 0)), d.response.policy⟩, d.until_⟩ : TEntry)) (k := n) (j := 7) hs (by repeat (first | exact Sel.nil | (apply Sel.cons; (repeat (first | exact Ext.here | apply Ext.there))))) (by rfl) (by rfl) (by rfl) hg7 ⟨_, by rfl, by rfl⟩ (by repeat (first | (apply SetAt.here; repeat (first | exact Over.nil | apply Over.cons)) | apply SetAt.there)) (by exact own_part_flat ⟨(Sl.Ok.elem (hs.okow (x := s7) (F := F1) (by repeat (first | exact List.mem_cons_self | apply List.mem_cons_of_mem))) hg7).top, (Sl.Ok.elem (hs.okow (x := s7) (F := F1) (by repeat (first | exact List.mem_cons_self | apply List.mem_cons_of_mem))) hg7).to, ⟨(Sl.Ok.elem (hs.okow (x := s7) (F := F1) (by repeat (first | exact List.mem_cons_self | apply List.mem_cons_of_mem))) hg7).response.status, (Sl.Ok.elem (hs.okow (x := s7) (F := F1) (by repeat (first | exact List.mem_cons_self | apply List.mem_cons_of_mem))) hg7).response.kind, (Sl.Ok.elem (hs.okow (x := s7) (F := F1) (by repeat (first | exact List.mem_cons_self | apply List.mem_cons_of_mem))) hg7).response.body, (Sl.Ok.elem (hs.okow (x := s7) (F := F1) (by repeat (first | exact List.mem_cons_self | apply List.mem_cons_of_mem))) hg7).response.age, (by trivial), (Sl.Ok.elem (hs.okow (x := s7) (F := F1) (by repeat (first | exact List.mem_cons_self | apply List.mem_cons_of_mem))) hg7).response.policy⟩, (Sl.Ok.elem (hs.okow (x := s7) (F := F1) (by repeat (first | exact List.mem_cons_self | apply List.mem_cons_of_mem))) hg7).until_⟩) (by rfl) (by exact szf4)) ?_
    clear hs; rintro _ w ⟨s8, _, rfl, hv8, hl8, hg8, hs⟩
    refine WL.next ?_
    refine WC.seq ?_
    refine WL.p (by rfl) (Yl.move (by rfl)) ?_
    refine WL.p (by rfl) (Yl.add (by rfl) (by rfl) (by omega)) ?_
    refine WL.p (by rfl) (Yl.assign (by rfl)) ?_
    refine WL.next ?_
    refine WC.seq ?_
    refine WL.p (by rfl) (Yl.move (by rfl)) ?_
    refine WL.p (by rfl) (Yl.move (by rfl)) ?_
    refine WL.p (by rfl) (Yl.move (by rfl)) ?_
    refine WL.callp hs (by rfl) (Yc.func (by rfl) fn128) (c_laws_markText _ _ (by omega)) ?_
    clear hs; intro w hs
    refine WL.p (by rfl) (Yl.indexAddrV slt34 (by rfl) (hv8.trans (hv7.trans (hv6.trans (hv5.trans (hv4.trans (hv3.trans (hv2.trans hv1))))))) (by rfl) (hs.okow (x := s8) (F := F1) (by repeat (first | exact List.mem_cons_self | apply List.mem_cons_of_mem))) (by rfl) (hg8)) ?_
    refine WL.p (by rfl) (Yl.fieldAddr fa180_2 (by rfl)) ?_
    refine WL.p (by rfl) (Yl.fieldAddr2 fa41_5 (by rfl)) ?_
    refine WL.s (Yr.storeP (s := s8) (F := F1) (d := (⟨(mkT (k + ((10 * n : Nat) : Int))), ⟨(mkT ((k + ((10 * n : Nat) : Int)) + 1)), (mkT (((k + ((10 * n : Nat) : Int)) + 1) + 1))⟩, ⟨((((k + ((10 * n : Nat) : Int)) + 1) + 1) + 1), (((((k + ((10 * n : Nat) : Int)) + 1) + 1) + 1) + 1), (mkT ((((((k + ((10 * n : Nat) : Int)) + 1) + 1) + 1) + 1) + 1)), (((((((k + ((10 * n : Nat) : Int)) + 1) + 1) + 1) + 1) + 1) + 1), (decide ((Int.tmod ((((((((k + ((10 * n : Nat) : Int)) + 1) + 1) + 1) + 1) + 1) + 1) + 1) 3) = 0)), d.response.policy⟩, d.until_⟩ : TEntry)) (u := (⟨(mkT (k + ((10 * n : Nat) : Int))), ⟨(mkT ((k + ((10 * n : Nat) : Int)) + 1)), (mkT (((k + ((10 * n : Nat) : Int)) + 1) + 1))⟩, ⟨((((k + ((10 * n : Nat) : Int)) + 1) + 1) + 1), (((((k + ((10 * n : Nat) : Int)) + 1) + 1) + 1) + 1), (mkT ((((((k + ((10 * n : Nat) : Int)) + 1) + 1) + 1) + 1) + 1)), (((((((k + ((10 * n : Nat) : Int)) + 1) + 1) + 1) + 1) + 1) + 1), (decide ((Int.tmod ((((((((k + ((10 * n : Nat) : Int)) + 1) + 1) + 1) + 1) + 1) + 1) + 1) 3) = 0)), (mkT (((((((((k + ((10 * n : Nat) : Int)) + 1) + 1) + 1) + 1) + 1) + 1) + 1) + 1))⟩, d.until_⟩ : TEntry)) (k := n) (j := 8) hs (by repeat (first | exact Sel.nil | (apply Sel.cons; (repeat (first | exact Ext.here | apply Ext.there))))) (by rfl) (by rfl) (by rfl) hg8 ⟨_, by rfl, by rfl⟩ (by repeat (first | (apply SetAt.here; repeat (first | exact Over.nil | apply Over.cons)) | apply SetAt.there)) (by exact own_part_flat ⟨(Sl.Ok.elem (hs.okow (x := s8) (F := F1) (by repeat (first | exact List.mem_cons_self | apply List.mem_cons_of_mem))) hg8).top, (Sl.Ok.elem (hs.okow (x := s8) (F := F1) (by repeat (first | exact List.mem_cons_self | apply List.mem_cons_of_mem))) hg8).to, ⟨(Sl.Ok.elem (hs.okow (x := s8) (F := F1) (by repeat (first | exact List.mem_cons_self | apply List.mem_cons_of_mem))) hg8).response.status, (Sl.Ok.elem (hs.okow (x := s8) (F := F1) (by repeat (first | exact List.mem_cons_self | apply List.mem_cons_of_mem))) hg8).response.kind, (Sl.Ok.elem (hs.okow (x := s8) (F := F1) (by repeat (first | exact List.mem_cons_self | apply List.mem_cons_of_mem))) hg8).response.body, (Sl.Ok.elem (hs.okow (x := s8) (F := F1) (by repeat (first | exact List.mem_cons_self | apply List.mem_cons_of_mem))) hg8).response.age, (Sl.Ok.elem (hs.okow (x := s8) (F := F1) (by repeat (first | exact List.mem_cons_self | apply List.mem_cons_of_mem))) hg8).response.shares, (by first | exact (show WfS ((mkT (((((((((k + ((10 * n : Nat) : Int)) + 1) + 1) + 1) + 1) + 1) + 1) + 1) + 1))) from mkT_len (by omega)) | assumption | (refine Ph.old ?_ hs; assumption))⟩, (Sl.Ok.elem (hs.okow (x := s8) (F := F1) (by repeat (first | exact List.mem_cons_self | apply List.mem_cons_of_mem))) hg8).until_⟩) (by rfl) (by exact szf9)) ?_
    clear hs; rintro _ w ⟨s9, _, rfl, hv9, hl9, hg9, hs⟩
    refine WL.next ?_
    refine WC.seq ?_
    refine WL.p (by rfl) (Yl.move (by rfl)) ?_
    refine WL.p (by rfl) (Yl.add (by rfl) (by rfl) (by omega)) ?_
    refine WL.p (by rfl) (Yl.assign (by rfl)) ?_
    refine WL.next ?_
    refine WC.seq ?_
    refine WL.p (by rfl) (Yl.move (by rfl)) ?_
    refine WL.p (by rfl) (Yl.move (by rfl)) ?_
    refine WL.p (by rfl) (Yl.move (by rfl)) ?_
    refine WL.p (by rfl) (Yl.indexAddrV slt34 (by rfl) (hv9.trans (hv8.trans (hv7.trans (hv6.trans (hv5.trans (hv4.trans (hv3.trans (hv2.trans hv1)))))))) (by rfl) (hs.okow (x := s9) (F := F1) (by repeat (first | exact List.mem_cons_self | apply List.mem_cons_of_mem))) (by rfl) (hg9)) ?_
    refine WL.p (by rfl) (Yl.fieldAddr fa180_3 (by rfl)) ?_
    refine WL.s (Yr.storeP (s := s9) (F := F1) (d := (⟨(mkT (k + ((10 * n : Nat) : Int))), ⟨(mkT ((k + ((10 * n : Nat) : Int)) + 1)), (mkT (((k + ((10 * n : Nat) : Int)) + 1) + 1))⟩, ⟨((((k + ((10 * n : Nat) : Int)) + 1) + 1) + 1), (((((k + ((10 * n : Nat) : Int)) + 1) + 1) + 1) + 1), (mkT ((((((k + ((10 * n : Nat) : Int)) + 1) + 1) + 1) + 1) + 1)), (((((((k + ((10 * n : Nat) : Int)) + 1) + 1) + 1) + 1) + 1) + 1), (decide ((Int.tmod ((((((((k + ((10 * n : Nat) : Int)) + 1) + 1) + 1) + 1) + 1) + 1) + 1) 3) = 0)), (mkT (((((((((k + ((10 * n : Nat) : Int)) + 1) + 1) + 1) + 1) + 1) + 1) + 1) + 1))⟩, d.until_⟩ : TEntry)) (u := (⟨(mkT (k + ((10 * n : Nat) : Int))), ⟨(mkT ((k + ((10 * n : Nat) : Int)) + 1)), (mkT (((k + ((10 * n : Nat) : Int)) + 1) + 1))⟩, ⟨((((k + ((10 * n : Nat) : Int)) + 1) + 1) + 1), (((((k + ((10 * n : Nat) : Int)) + 1) + 1) + 1) + 1), (mkT ((((((k + ((10 * n : Nat) : Int)) + 1) + 1) + 1) + 1) + 1)), (((((((k + ((10 * n : Nat) : Int)) + 1) + 1) + 1) + 1) + 1) + 1), (decide ((Int.tmod ((((((((k + ((10 * n : Nat) : Int)) + 1) + 1) + 1) + 1) + 1) + 1) + 1) 3) = 0)), (mkT (((((((((k + ((10 * n : Nat) : Int)) + 1) + 1) + 1) + 1) + 1) + 1) + 1) + 1))⟩, ((((((((((k + ((10 * n : Nat) : Int)) + 1) + 1) + 1) + 1) + 1) + 1) + 1) + 1) + 1)⟩ : TEntry)) (k := n) (j := 9) hs (by repeat (first | exact Sel.nil | (apply Sel.cons; (repeat (first | exact Ext.here | apply Ext.there))))) (by rfl) (by rfl) (by rfl) hg9 ⟨_, by rfl, by rfl⟩ (by repeat (first | (apply SetAt.here; repeat (first | exact Over.nil | apply Over.cons)) | apply SetAt.there)) (by exact own_part_flat ⟨(Sl.Ok.elem (hs.okow (x := s9) (F := F1) (by repeat (first | exact List.mem_cons_self | apply List.mem_cons_of_mem))) hg9).top, (Sl.Ok.elem (hs.okow (x := s9) (F := F1) (by repeat (first | exact List.mem_cons_self | apply List.mem_cons_of_mem))) hg9).to, (Sl.Ok.elem (hs.okow (x := s9) (F := F1) (by repeat (first | exact List.mem_cons_self | apply List.mem_cons_of_mem))) hg9).response, (by exact (show WfI (((((((((((k + ((10 * n : Nat) : Int)) + 1) + 1) + 1) + 1) + 1) + 1) + 1) + 1) + 1)) from ⟨by omega, by omega⟩))⟩) (by rfl) (by exact szf3)) ?_
    clear hs; rintro _ w ⟨s10, _, rfl, hv10, hl10, hg10, hs⟩
    refine WL.next ?_
    refine WC.region ?_
    refine WL.p (by rfl) (Yl.move (by rfl)) ?_
    refine WL.p (by rfl) (Yl.add (by rfl) (by rfl) (by omega)) ?_
    refine WL.p (by rfl) (Yl.assign (by rfl)) ?_
    refine WL.nil ?_
    refine At.blocknormal ?_
    refine At.then_ ?_
    refine WC.region ?_
    refine WL.p (by rfl) (Yl.move (by rfl)) ?_
    refine WL.p (by rfl) (Yl.add (by rfl) (by rfl) (by omega)) ?_
    refine WL.p (by rfl) (Yl.assign (by rfl)) ?_
    refine WL.nil ?_
    refine At.roundC (n + 1, s10, F1, p ++ [(⟨(mkT (k + ((10 * n : Nat) : Int))), ⟨(mkT ((k + ((10 * n : Nat) : Int)) + 1)), (mkT (((k + ((10 * n : Nat) : Int)) + 1) + 1))⟩, ⟨((((k + ((10 * n : Nat) : Int)) + 1) + 1) + 1), (((((k + ((10 * n : Nat) : Int)) + 1) + 1) + 1) + 1), (mkT ((((((k + ((10 * n : Nat) : Int)) + 1) + 1) + 1) + 1) + 1)), (((((((k + ((10 * n : Nat) : Int)) + 1) + 1) + 1) + 1) + 1) + 1), (decide ((Int.tmod ((((((((k + ((10 * n : Nat) : Int)) + 1) + 1) + 1) + 1) + 1) + 1) + 1) 3) = 0)), (mkT (((((((((k + ((10 * n : Nat) : Int)) + 1) + 1) + 1) + 1) + 1) + 1) + 1) + 1))⟩, ((((((((((k + ((10 * n : Nat) : Int)) + 1) + 1) + 1) + 1) + 1) + 1) + 1) + 1) + 1)⟩ : TEntry)]) (hs.only (by repeat (first | exact Sel.nil | (apply Sel.cons; (repeat (first | exact Ext.here | apply Ext.there)))))) ⟨by rfl, trivial⟩ ⟨by rfl, by exact congrArg (fun z => some (I z)) (by omega), by exact congrArg some (hv10.trans (hv9.trans (hv8.trans (hv7.trans (hv6.trans (hv5.trans (hv4.trans (hv3.trans (hv2.trans hv1))))))))).symm, trivial⟩ ?_ ?_
    ·
      show a.l.length - (n + 1) < a.l.length - n
      omega
    ·
      refine ⟨by omega, (hv10.trans (hv9.trans (hv8.trans (hv7.trans (hv6.trans (hv5.trans (hv4.trans (hv3.trans (hv2.trans hv1))))))))).trans hJ2, by simp [hJ3], ?_, ?_⟩
      · rw [hl10, hl9, hl8, hl7, hl6, hl5, hl4, hl3, hl2, hl1]; simp only [List.set_set]; rw [hJ4]; exact step_set hJ3 (by omega)
      · rw [mkL_step hd0, hJ5, costL_take_const (by omega)]; rfl
  ·
    replace h1 := of_decide_eq_false h1
    refine WC.exit ?_
    refine At.thenexit ?_
    refine At.thenexit ?_
    refine At.blockexit ?_
    refine At.then_ ?_
    refine WC.seq ?_
    refine WL.p (by rfl) (Yl.move (by rfl)) ?_
    refine WL.p (by rfl) (Yl.assign (by rfl)) ?_
    refine WL.next ?_
    refine WC.ret ?_
    refine fin1' rfl (by rfl) ?_
    have hsl : s.l.length = a.l.length := by rw [hJ4]; simp [hJ3]; omega
    have hn2 : n = a.l.length := by omega
    subst hn2
    rw [costL_const]
    refine RetM.cast (congrArg I (by omega)) ?_
    exact RetM.of hs (by repeat (first | exact List.mem_cons_self | apply List.mem_cons_of_mem)) (Sl.v_enc hJ2) (by rw [hJ4, List.drop_length, List.append_nil, hJ5, List.take_length])

theorem c_laws_markCache (a : PCache) (k : Int) (w : World) (F : List Nat) (hF : Own.own w a F) (hn : F.Nodup)  (hk0 : 0 ≤ k) (hk : k + ((costoCache a.lg : Nat) : Int) ≤ 100000000) : Calls Tryz.prog 80 [.agg #[Sl.v a.entries], I k].toArray w (RetM w a F (I (k + ((costoCache a.lg : Nat) : Int))) (fun a' => a'.lg = mkoCache k a.lg)) := by
  have hk2 := hk
  simp only [costoCache, costoCache, PToken.lg, PNode.lg, PBuilder.lg, PSheet.lg, PPolicy.lg, PServer.lg, PCache.lg, PNet.lg, PPage.lg] at hk2
  refine enterN 10 Tryz.func80 rfl rfl rfl ?_
  have hs := Sat.markStart hF hn
  obtain ⟨G0, hfl, hs⟩ := PCache.split hs
  refine WC.seq ?_
  refine WL.r (by rfl) (Yr.box hs (by rfl) (by rfl)) ?_
  clear hs; rintro _ w ⟨b1, rfl, hb, hs⟩; clear hb
  refine WL.p (by rfl) (Yl.assign (by rfl)) ?_
  refine WL.next ?_
  refine WC.seq ?_
  refine WL.p (by rfl) (Yl.fieldAddr fa36_0 (by rfl)) ?_
  refine WL.p (by rfl) (Yl.loadB sca34 (by rfl) hs (by repeat (first | exact List.mem_cons_self | apply List.mem_cons_of_mem)) (by rfl)) ?_
  refine WL.p (by rfl) (Yl.move (by rfl)) ?_
  refine WL.callm (a := a.entries) (F := G0) hs (by repeat (first | exact Sel.nil | (apply Sel.cons; (repeat (first | exact Ext.here | apply Ext.there))))) (by rfl) (Yc.func (by rfl) fn151) (c_laws_markEntryS a.entries _ _ G0 (own_of hs (by repeat (first | exact List.mem_cons_self | apply List.mem_cons_of_mem))) (nodup_of hs (by repeat (first | exact List.mem_cons_self | apply List.mem_cons_of_mem))) (by first | assumption | omega | (simp only [costServer, costNode, costSheet, costToken, costoPolicy, costoCache, costoNet, costoSheet, costoBuilder, costoToken, PToken.lg, PNode.lg, PBuilder.lg, PSheet.lg, PPolicy.lg, PServer.lg, PCache.lg, PNet.lg, PPage.lg] at *; omega)) (by first | assumption | omega | (simp only [costServer, costNode, costSheet, costToken, costoPolicy, costoCache, costoNet, costoSheet, costoBuilder, costoToken, PToken.lg, PNode.lg, PBuilder.lg, PSheet.lg, PPolicy.lg, PServer.lg, PCache.lg, PNet.lg, PPage.lg] at *; omega))) ?_
  clear hs; intro a2 F2 w he2 hq2 hs
  refine WL.p (by rfl) (Yl.assign (by rfl)) ?_
  refine WL.next ?_
  refine WC.seq ?_
  refine WL.p (by rfl) (Yl.move (by rfl)) ?_
  refine WL.p (by rfl) (Yl.assign (by rfl)) ?_
  refine WL.next ?_
  refine WC.ret ?_
  refine fin1' rfl (by rfl) ?_
  refine RetM.cast (congrArg I (by first | rfl | (simp only [costoCache, costoCache, PToken.lg, PNode.lg, PBuilder.lg, PSheet.lg, PPolicy.lg, PServer.lg, PCache.lg, PNet.lg, PPage.lg]; omega))) ?_
  exact RetM.of (a' := ⟨a2⟩) (PCache.join ⟨a2⟩ (hs.only (D := [ow a2 F2]) (by repeat (first | exact Sel.nil | (apply Sel.cons; (repeat (first | exact Ext.here | apply Ext.there)))))) ) List.mem_cons_self (by show [Sl.v a2] = [Sl.v a.entries]; rw [show Sl.v a2 = Sl.v a.entries from Sl.enc_v he2]) (by simp only [PCache.lg, mkoCache]; rw [show a2.l = _ from hq2])

theorem c_laws_markSentS (a : (Sl TSent)) (k : Int) (w : World) (F : List Nat) (hF : Own.own w a F) (hn : F.Nodup)  (hk0 : 0 ≤ k) (hk : k + ((costL (fun _ => 4) (a.l) : Nat) : Int) ≤ 100000000) : Calls Tryz.prog 81 [Sl.v a, I k].toArray w (RetM w a F (I (k + ((costL (fun _ => 4) (a.l) : Nat) : Int))) (fun a' => a'.l = mkL mkSent (fun _ => 4) k (a.l))) := by
  have hw := (Own.ok hF : Sl.Ok w a).lt
  have hk2 := hk
  rw [costL_const] at hk2
  refine enterN 48 Tryz.func81 rfl rfl rfl ?_
  have hs := Sat.markStart hF hn
  refine WC.seq ?_
  refine WL.p (by rfl) (Yl.assign (by rfl)) ?_
  refine WL.next ?_
  refine WC.seq' ?_
  refine WC.seq ?_
  refine WL.p (by rfl) (Yl.assign (by rfl)) ?_
  refine WL.next ?_
  refine WC.block ?_
  refine WC.loopC (ι := Nat × Sl TSent × List Nat × List TSent) (fun ⟨n, s, F1, p⟩ => a.l.length - n) (fun ⟨n, s, F1, p⟩ => [(5, I (n : Int)), (1, I (k + ((4 * n : Nat) : Int))), (0, s.v)]) (fun ⟨n, s, F1, p⟩ => [ow s F1]) (fun ⟨n, s, F1, p⟩ => n ≤ a.l.length ∧ s.v = a.v ∧ p.length = n ∧ s.l = p ++ a.l.drop n ∧ p = mkL mkSent (fun _ => 4) k (a.l.take n)) [(4, _)] (0, a, F, []) (hs.sel (D := [ow a F]) (by repeat (first | exact Sel.nil | (apply Sel.cons; (repeat (first | exact Ext.here | apply Ext.there)))))) ⟨by rfl, trivial⟩ ⟨by rfl, by exact congrArg (fun z => some (I z)) (by omega), by rfl, trivial⟩ ?_ ?_
  ·
    exact ⟨Nat.zero_le _, rfl, rfl, by simp, by simp [mkL]⟩
  clear hs; rintro ⟨n, s, F1, p⟩ w ⟨hJ1, hJ2, hJ3, hJ4, hJ5⟩ hs
  simp only [List.cons_append, List.nil_append] at hs
  refine WC.seq' ?_
  refine WC.seq ?_
  refine WL.p (by rfl) (Yl.move (by rfl)) ?_
  refine WL.p (by rfl) (Yl.move (by rfl)) ?_
  refine WL.p (by rfl) (Yl.len_sl slu37 (by rfl)) ?_
  refine WL.p (by rfl) (Yl.lss (by rfl) (by rfl)) ?_
  refine WL.next ?_
  refine WC.condS (by rfl) (fun h1 => ?_) (fun h1 => ?_)
  ·
    replace h1 := of_decide_eq_true h1
    have hsl : s.l.length = a.l.length := by rw [hJ4]; simp [hJ3]; omega
    obtain ⟨d, hd0⟩ := exists_get (l := a.l) (k := n) (by omega)
    have hd : s.l[n]? = some d := by rw [hJ4]; exact step_get hJ3 hd0
    have hkl : n < s.l.length := by omega
    refine WC.skipn ?_
    refine WC.seq' ?_
    refine WC.block ?_
    refine WC.seq ?_
    refine WL.p (by rfl) (Yl.move (by rfl)) ?_
    refine WL.p (by rfl) (Yl.move (by rfl)) ?_
    refine WL.p (by rfl) (Yl.move (by rfl)) ?_
    refine WL.callp hs (by rfl) (Yc.func (by rfl) fn128) (c_laws_markText _ _ (by omega)) ?_
    clear hs; intro w hs
    refine WL.p (by rfl) (Yl.indexAddr slt37 (by rfl) (by rfl) (hs.okow (x := s) (F := F1) (by repeat (first | exact List.mem_cons_self | apply List.mem_cons_of_mem))) (by rfl) (hd)) ?_
    refine WL.p (by rfl) (Yl.fieldAddr fa123_0 (by rfl)) ?_
    refine WL.s (Yr.storeP (s := s) (F := F1) (d := d) (u := (⟨(mkT (k + ((4 * n : Nat) : Int))), d.to, d.guess⟩ : TSent)) (k := n) (j := 0) hs (by repeat (first | exact Sel.nil | (apply Sel.cons; (repeat (first | exact Ext.here | apply Ext.there))))) (by rfl) (by rfl) (by rfl) hd ⟨_, by rfl, by rfl⟩ (by repeat (first | (apply SetAt.here; repeat (first | exact Over.nil | apply Over.cons)) | apply SetAt.there)) (by exact own_part_flat ⟨(by first | exact (show WfS ((mkT (k + ((4 * n : Nat) : Int)))) from mkT_len (by omega)) | assumption | (refine Ph.old ?_ hs; assumption)), (Sl.Ok.elem (hs.okow (x := s) (F := F1) (by repeat (first | exact List.mem_cons_self | apply List.mem_cons_of_mem))) hd).to, (Sl.Ok.elem (hs.okow (x := s) (F := F1) (by repeat (first | exact List.mem_cons_self | apply List.mem_cons_of_mem))) hd).guess⟩) (by rfl) (by exact szf9)) ?_
    clear hs; rintro _ w ⟨s1, _, rfl, hv1, hl1, hg1, hs⟩
    refine WL.next ?_
    refine WC.seq ?_
    refine WL.p (by rfl) (Yl.move (by rfl)) ?_
    refine WL.p (by rfl) (Yl.add (by rfl) (by rfl) (by omega)) ?_
    refine WL.p (by rfl) (Yl.assign (by rfl)) ?_
    refine WL.next ?_
    refine WC.seq ?_
    refine WL.p (by rfl) (Yl.move (by rfl)) ?_
    refine WL.p (by rfl) (Yl.move (by rfl)) ?_
    refine WL.p (by rfl) (Yl.move (by rfl)) ?_
    refine WL.callp hs (by rfl) (Yc.func (by rfl) fn128) (c_laws_markText _ _ (by omega)) ?_
    clear hs; intro w hs
    refine WL.p (by rfl) (Yl.indexAddrV slt37 (by rfl) hv1 (by rfl) (hs.okow (x := s1) (F := F1) (by repeat (first | exact List.mem_cons_self | apply List.mem_cons_of_mem))) (by rfl) (hg1)) ?_
    refine WL.p (by rfl) (Yl.fieldAddr fa123_1 (by rfl)) ?_
    refine WL.p (by rfl) (Yl.fieldAddr2 fa45_0 (by rfl)) ?_
    refine WL.s (Yr.storeP (s := s1) (F := F1) (d := (⟨(mkT (k + ((4 * n : Nat) : Int))), d.to, d.guess⟩ : TSent)) (u := (⟨(mkT (k + ((4 * n : Nat) : Int))), ⟨(mkT ((k + ((4 * n : Nat) : Int)) + 1)), d.to.path⟩, d.guess⟩ : TSent)) (k := n) (j := 1) hs (by repeat (first | exact Sel.nil | (apply Sel.cons; (repeat (first | exact Ext.here | apply Ext.there))))) (by rfl) (by rfl) (by rfl) hg1 ⟨_, by rfl, by rfl⟩ (by repeat (first | (apply SetAt.here; repeat (first | exact Over.nil | apply Over.cons)) | apply SetAt.there)) (by exact own_part_flat ⟨(Sl.Ok.elem (hs.okow (x := s1) (F := F1) (by repeat (first | exact List.mem_cons_self | apply List.mem_cons_of_mem))) hg1).top, ⟨(by first | exact (show WfS ((mkT ((k + ((4 * n : Nat) : Int)) + 1))) from mkT_len (by omega)) | assumption | (refine Ph.old ?_ hs; assumption)), (Sl.Ok.elem (hs.okow (x := s1) (F := F1) (by repeat (first | exact List.mem_cons_self | apply List.mem_cons_of_mem))) hg1).to.path⟩, (Sl.Ok.elem (hs.okow (x := s1) (F := F1) (by repeat (first | exact List.mem_cons_self | apply List.mem_cons_of_mem))) hg1).guess⟩) (by rfl) (by exact szf9)) ?_
    clear hs; rintro _ w ⟨s2, _, rfl, hv2, hl2, hg2, hs⟩
    refine WL.next ?_
    refine WC.seq ?_
    refine WL.p (by rfl) (Yl.move (by rfl)) ?_
    refine WL.p (by rfl) (Yl.add (by rfl) (by rfl) (by omega)) ?_
    refine WL.p (by rfl) (Yl.assign (by rfl)) ?_
    refine WL.next ?_
    refine WC.seq ?_
    refine WL.p (by rfl) (Yl.move (by rfl)) ?_
    refine WL.p (by rfl) (Yl.move (by rfl)) ?_
    refine WL.p (by rfl) (Yl.move (by rfl)) ?_
    refine WL.callp hs (by rfl) (Yc.func (by rfl) fn128) (c_laws_markText _ _ (by omega)) ?_
    clear hs; intro w hs
    refine WL.p (by rfl) (Yl.indexAddrV slt37 (by rfl) (hv2.trans hv1) (by rfl) (hs.okow (x := s2) (F := F1) (by repeat (first | exact List.mem_cons_self | apply List.mem_cons_of_mem))) (by rfl) (hg2)) ?_
    refine WL.p (by rfl) (Yl.fieldAddr fa123_1 (by rfl)) ?_
    refine WL.p (by rfl) (Yl.fieldAddr2 fa45_1 (by rfl)) ?_
    refine WL.s (Yr.storeP (s := s2) (F := F1) (d := (⟨(mkT (k + ((4 * n : Nat) : Int))), ⟨(mkT ((k + ((4 * n : Nat) : Int)) + 1)), d.to.path⟩, d.guess⟩ : TSent)) (u := (⟨(mkT (k + ((4 * n : Nat) : Int))), ⟨(mkT ((k + ((4 * n : Nat) : Int)) + 1)), (mkT (((k + ((4 * n : Nat) : Int)) + 1) + 1))⟩, d.guess⟩ : TSent)) (k := n) (j := 2) hs (by repeat (first | exact Sel.nil | (apply Sel.cons; (repeat (first | exact Ext.here | apply Ext.there))))) (by rfl) (by rfl) (by rfl) hg2 ⟨_, by rfl, by rfl⟩ (by repeat (first | (apply SetAt.here; repeat (first | exact Over.nil | apply Over.cons)) | apply SetAt.there)) (by exact own_part_flat ⟨(Sl.Ok.elem (hs.okow (x := s2) (F := F1) (by repeat (first | exact List.mem_cons_self | apply List.mem_cons_of_mem))) hg2).top, ⟨(Sl.Ok.elem (hs.okow (x := s2) (F := F1) (by repeat (first | exact List.mem_cons_self | apply List.mem_cons_of_mem))) hg2).to.host, (by first | exact (show WfS ((mkT (((k + ((4 * n : Nat) : Int)) + 1) + 1))) from mkT_len (by omega)) | assumption | (refine Ph.old ?_ hs; assumption))⟩, (Sl.Ok.elem (hs.okow (x := s2) (F := F1) (by repeat (first | exact List.mem_cons_self | apply List.mem_cons_of_mem))) hg2).guess⟩) (by rfl) (by exact szf9)) ?_
    clear hs; rintro _ w ⟨s3, _, rfl, hv3, hl3, hg3, hs⟩
    refine WL.next ?_
    refine WC.seq ?_
    refine WL.p (by rfl) (Yl.move (by rfl)) ?_
    refine WL.p (by rfl) (Yl.add (by rfl) (by rfl) (by omega)) ?_
    refine WL.p (by rfl) (Yl.assign (by rfl)) ?_
    refine WL.next ?_
    refine WC.seq ?_
    refine WL.p (by rfl) (Yl.move (by rfl)) ?_
    refine WL.p (by rfl) (Yl.move (by rfl)) ?_
    refine WL.p (by rfl) (Yl.move (by rfl)) ?_
    refine WL.p (by rfl) (Yl.remw (by rfl) (by rfl) (by decide)) ?_
    refine WL.p (by rfl) (Yl.eqi (by rfl) (by rfl)) ?_
    refine WL.p (by rfl) (Yl.indexAddrV slt37 (by rfl) (hv3.trans (hv2.trans hv1)) (by rfl) (hs.okow (x := s3) (F := F1) (by repeat (first | exact List.mem_cons_self | apply List.mem_cons_of_mem))) (by rfl) (hg3)) ?_
    refine WL.p (by rfl) (Yl.fieldAddr fa123_2 (by rfl)) ?_
    refine WL.s (Yr.storeP (s := s3) (F := F1) (d := (⟨(mkT (k + ((4 * n : Nat) : Int))), ⟨(mkT ((k + ((4 * n : Nat) : Int)) + 1)), (mkT (((k + ((4 * n : Nat) : Int)) + 1) + 1))⟩, d.guess⟩ : TSent)) (u := (⟨(mkT (k + ((4 * n : Nat) : Int))), ⟨(mkT ((k + ((4 * n : Nat) : Int)) + 1)), (mkT (((k + ((4 * n : Nat) : Int)) + 1) + 1))⟩, (decide ((Int.tmod ((((k + ((4 * n : Nat) : Int)) + 1) + 1) + 1) 3) = 0))⟩ : TSent)) (k := n) (j := 3) hs (by repeat (first | exact Sel.nil | (apply Sel.cons; (repeat (first | exact Ext.here | apply Ext.there))))) (by rfl) (by rfl) (by rfl) hg3 ⟨_, by rfl, by rfl⟩ (by repeat (first | (apply SetAt.here; repeat (first | exact Over.nil | apply Over.cons)) | apply SetAt.there)) (by exact own_part_flat ⟨(Sl.Ok.elem (hs.okow (x := s3) (F := F1) (by repeat (first | exact List.mem_cons_self | apply List.mem_cons_of_mem))) hg3).top, (Sl.Ok.elem (hs.okow (x := s3) (F := F1) (by repeat (first | exact List.mem_cons_self | apply List.mem_cons_of_mem))) hg3).to, (by trivial)⟩) (by rfl) (by exact szf4)) ?_
    clear hs; rintro _ w ⟨s4, _, rfl, hv4, hl4, hg4, hs⟩
    refine WL.next ?_
    refine WC.region ?_
    refine WL.p (by rfl) (Yl.move (by rfl)) ?_
    refine WL.p (by rfl) (Yl.add (by rfl) (by rfl) (by omega)) ?_
    refine WL.p (by rfl) (Yl.assign (by rfl)) ?_
    refine WL.nil ?_
    refine At.blocknormal ?_
    refine At.then_ ?_
    refine WC.region ?_
    refine WL.p (by rfl) (Yl.move (by rfl)) ?_
    refine WL.p (by rfl) (Yl.add (by rfl) (by rfl) (by omega)) ?_
    refine WL.p (by rfl) (Yl.assign (by rfl)) ?_
    refine WL.nil ?_
    refine At.roundC (n + 1, s4, F1, p ++ [(⟨(mkT (k + ((4 * n : Nat) : Int))), ⟨(mkT ((k + ((4 * n : Nat) : Int)) + 1)), (mkT (((k + ((4 * n : Nat) : Int)) + 1) + 1))⟩, (decide ((Int.tmod ((((k + ((4 * n : Nat) : Int)) + 1) + 1) + 1) 3) = 0))⟩ : TSent)]) (hs.only (by repeat (first | exact Sel.nil | (apply Sel.cons; (repeat (first | exact Ext.here | apply Ext.there)))))) ⟨by rfl, trivial⟩ ⟨by rfl, by exact congrArg (fun z => some (I z)) (by omega), by exact congrArg some (hv4.trans (hv3.trans (hv2.trans hv1))).symm, trivial⟩ ?_ ?_
    ·
      show a.l.length - (n + 1) < a.l.length - n
      omega
    ·
      refine ⟨by omega, (hv4.trans (hv3.trans (hv2.trans hv1))).trans hJ2, by simp [hJ3], ?_, ?_⟩
      · rw [hl4, hl3, hl2, hl1]; simp only [List.set_set]; rw [hJ4]; exact step_set hJ3 (by omega)
      · rw [mkL_step hd0, hJ5, costL_take_const (by omega)]; rfl
  ·
    replace h1 := of_decide_eq_false h1
    refine WC.exit ?_
    refine At.thenexit ?_
    refine At.thenexit ?_
    refine At.blockexit ?_
    refine At.then_ ?_
    refine WC.seq ?_
    refine WL.p (by rfl) (Yl.move (by rfl)) ?_
    refine WL.p (by rfl) (Yl.assign (by rfl)) ?_
    refine WL.next ?_
    refine WC.ret ?_
    refine fin1' rfl (by rfl) ?_
    have hsl : s.l.length = a.l.length := by rw [hJ4]; simp [hJ3]; omega
    have hn2 : n = a.l.length := by omega
    subst hn2
    rw [costL_const]
    refine RetM.cast (congrArg I (by omega)) ?_
    exact RetM.of hs (by repeat (first | exact List.mem_cons_self | apply List.mem_cons_of_mem)) (Sl.v_enc hJ2) (by rw [hJ4, List.drop_length, List.append_nil, hJ5, List.take_length])

theorem c_laws_markNet (a : PNet) (k : Int) (w : World) (F : List Nat) (hF : Own.own w a F) (hn : F.Nodup)  (hk0 : 0 ≤ k) (hk : k + ((costoNet a.lg : Nat) : Int) ≤ 100000000) : Calls Tryz.prog 19 [.agg #[Sl.v a.servers, Sl.v a.cache.entries, Sl.v a.log, I a.now], I k].toArray w (RetM w a F (I (k + ((costoNet a.lg : Nat) : Int))) (fun a' => a'.lg = mkoNet k a.lg)) := by
  have hk2 := hk
  simp only [costoNet, costoCache, PToken.lg, PNode.lg, PBuilder.lg, PSheet.lg, PPolicy.lg, PServer.lg, PCache.lg, PNet.lg, PPage.lg] at hk2
  refine enterN 18 Tryz.func19 rfl rfl rfl ?_
  have hs := Sat.markStart hF hn
  obtain ⟨G0, G1, G2, hfl, hs⟩ := PNet.split hs
  refine WC.seq ?_
  refine WL.r (by rfl) (Yr.box hs (by rfl) (by rfl)) ?_
  clear hs; rintro _ w ⟨b1, rfl, hb, hs⟩; clear hb
  refine WL.p (by rfl) (Yl.assign (by rfl)) ?_
  refine WL.next ?_
  refine WC.seq ?_
  refine WL.p (by rfl) (Yl.fieldAddr fa39_0 (by rfl)) ?_
  refine WL.p (by rfl) (Yl.loadB sca33 (by rfl) hs (by repeat (first | exact List.mem_cons_self | apply List.mem_cons_of_mem)) (by rfl)) ?_
  refine WL.p (by rfl) (Yl.move (by rfl)) ?_
  refine WL.callm (a := a.servers) (F := G0) hs (by repeat (first | exact Sel.nil | (apply Sel.cons; (repeat (first | exact Ext.here | apply Ext.there))))) (by rfl) (Yc.func (by rfl) fn79) (c_laws_markServerS a.servers _ _ G0 (own_of hs (by repeat (first | exact List.mem_cons_self | apply List.mem_cons_of_mem))) (nodup_of hs (by repeat (first | exact List.mem_cons_self | apply List.mem_cons_of_mem))) (by first | assumption | omega | (simp only [costServer, costNode, costSheet, costToken, costoPolicy, costoCache, costoNet, costoSheet, costoBuilder, costoToken, PToken.lg, PNode.lg, PBuilder.lg, PSheet.lg, PPolicy.lg, PServer.lg, PCache.lg, PNet.lg, PPage.lg] at *; omega)) (by first | assumption | omega | (simp only [costServer, costNode, costSheet, costToken, costoPolicy, costoCache, costoNet, costoSheet, costoBuilder, costoToken, PToken.lg, PNode.lg, PBuilder.lg, PSheet.lg, PPolicy.lg, PServer.lg, PCache.lg, PNet.lg, PPage.lg] at *; omega))) ?_
  clear hs; intro a2 F2 w he2 hq2 hs
  refine WL.p (by rfl) (Yl.assign (by rfl)) ?_
  refine WL.next ?_
  refine WC.seq ?_
  refine WL.p (by rfl) (Yl.fieldAddr fa39_1 (by rfl)) ?_
  refine WL.p (by rfl) (Yl.loadAB agg36 (by rfl) hs (by repeat (first | exact List.mem_cons_self | apply List.mem_cons_of_mem)) (by rfl) (by rfl)) ?_
  refine WL.p (by rfl) (Yl.move (by rfl)) ?_
  refine WL.callm (a := a.cache) (F := G1) hs (by repeat (first | exact Sel.nil | (apply Sel.cons; (repeat (first | exact Ext.here | apply Ext.there))))) (by rfl) (Yc.func (by rfl) fn80) (c_laws_markCache a.cache _ _ G1 (own_of hs (by repeat (first | exact List.mem_cons_self | apply List.mem_cons_of_mem))) (nodup_of hs (by repeat (first | exact List.mem_cons_self | apply List.mem_cons_of_mem))) (by first | assumption | omega | (simp only [costServer, costNode, costSheet, costToken, costoPolicy, costoCache, costoNet, costoSheet, costoBuilder, costoToken, PToken.lg, PNode.lg, PBuilder.lg, PSheet.lg, PPolicy.lg, PServer.lg, PCache.lg, PNet.lg, PPage.lg] at *; omega)) (by first | assumption | omega | (simp only [costServer, costNode, costSheet, costToken, costoPolicy, costoCache, costoNet, costoSheet, costoBuilder, costoToken, PToken.lg, PNode.lg, PBuilder.lg, PSheet.lg, PPolicy.lg, PServer.lg, PCache.lg, PNet.lg, PPage.lg] at *; omega))) ?_
  clear hs; intro a3 F3 w he3 hq3 hs
  refine WL.p (by rfl) (Yl.assign (by rfl)) ?_
  refine WL.next ?_
  refine WC.seq ?_
  refine WL.p (by rfl) (Yl.fieldAddr fa39_2 (by rfl)) ?_
  refine WL.p (by rfl) (Yl.loadB sca37 (by rfl) hs (by repeat (first | exact List.mem_cons_self | apply List.mem_cons_of_mem)) (by rfl)) ?_
  refine WL.p (by rfl) (Yl.move (by rfl)) ?_
  refine WL.callm (a := a.log) (F := G2) hs (by repeat (first | exact Sel.nil | (apply Sel.cons; (repeat (first | exact Ext.here | apply Ext.there))))) (by rfl) (Yc.func (by rfl) fn81) (c_laws_markSentS a.log _ _ G2 (own_of hs (by repeat (first | exact List.mem_cons_self | apply List.mem_cons_of_mem))) (nodup_of hs (by repeat (first | exact List.mem_cons_self | apply List.mem_cons_of_mem))) (by first | assumption | omega | (simp only [costServer, costNode, costSheet, costToken, costoPolicy, costoCache, costoNet, costoSheet, costoBuilder, costoToken, PToken.lg, PNode.lg, PBuilder.lg, PSheet.lg, PPolicy.lg, PServer.lg, PCache.lg, PNet.lg, PPage.lg] at *; omega)) (by first | assumption | omega | (simp only [costServer, costNode, costSheet, costToken, costoPolicy, costoCache, costoNet, costoSheet, costoBuilder, costoToken, PToken.lg, PNode.lg, PBuilder.lg, PSheet.lg, PPolicy.lg, PServer.lg, PCache.lg, PNet.lg, PPage.lg] at *; omega))) ?_
  clear hs; intro a4 F4 w he4 hq4 hs
  refine WL.p (by rfl) (Yl.assign (by rfl)) ?_
  refine WL.next ?_
  refine WC.seq ?_
  refine WL.p (by rfl) (Yl.move (by rfl)) ?_
  refine WL.p (by rfl) (Yl.assign (by rfl)) ?_
  refine WL.next ?_
  refine WC.ret ?_
  refine fin1' rfl (by rfl) ?_
  refine RetM.cast (congrArg I (by first | rfl | (simp only [costoNet, costoCache, PToken.lg, PNode.lg, PBuilder.lg, PSheet.lg, PPolicy.lg, PServer.lg, PCache.lg, PNet.lg, PPage.lg]; omega))) ?_
  exact RetM.of (a' := ⟨a2, a3, a4, a.now⟩) (PNet.join ⟨a2, a3, a4, a.now⟩ (hs.only (D := [ow a2 F2, ow a3 F3, ow a4 F4]) (by repeat (first | exact Sel.nil | (apply Sel.cons; (repeat (first | exact Ext.here | apply Ext.there)))))) (Flat.any hfl.1)) List.mem_cons_self (by show [Sl.v a2, Sl.v a3.entries, Sl.v a4, I a.now] = [Sl.v a.servers, Sl.v a.cache.entries, Sl.v a.log, I a.now]; rw [show Sl.v a2 = Sl.v a.servers from Sl.enc_v he2, show Sl.v a3.entries = Sl.v a.cache.entries from List.head_eq_of_cons_eq he3, show Sl.v a4 = Sl.v a.log from Sl.enc_v he4]) (by simp only [PNet.lg, mkoNet]; rw [show (a2.l.map PServer.lg) = _ from hq2, show a3.lg = _ from hq3, show a4.l = _ from hq4])

theorem c_laws_heldFileS (a : (Sl TFile)) (k : Int) (v : List TFile) (w : World) (h_a : Ph.ok w a) (hk0 : 0 ≤ k) (hk : k + ((costL (fun _ => 7) (v) : Nat) : Int) ≤ 100000000) (hm : a.l = mkL mkFile (fun _ => 7) k v) : Calls Tryz.prog 152 [Sl.v a, I k].toArray w (RetP w (I (k + ((costL (fun _ => 7) (v) : Nat) : Int)))) := by
  have hw := h_a.lt
  have hc : a.l.length = v.length := by rw [hm, mkL_length]
  have hk2 := hk
  rw [costL_const] at hk2
  refine enterN 87 Tryz.func152 rfl rfl rfl ?_
  have hs := Sat.start w
  refine WC.seq ?_
  refine WL.p (by rfl) (Yl.assign (by rfl)) ?_
  refine WL.next ?_
  refine WC.seq' ?_
  refine WC.seq ?_
  refine WL.p (by rfl) (Yl.assign (by rfl)) ?_
  refine WL.next ?_
  refine WC.block ?_
  refine WC.loopC (ι := Nat) (fun n => a.l.length - n) (fun n => [(5, I (n : Int)), (1, I (k + ((7 * n : Nat) : Int)))]) (fun _ => []) (fun n => n ≤ a.l.length) [(0, _)] 0 (hs) ⟨by rfl, trivial⟩ ⟨by rfl, by exact congrArg (fun z => some (I z)) (by omega), trivial⟩ ?_ ?_
  ·
    exact Nat.zero_le _
  clear hs; rintro n w hJ1 hs
  simp only [List.nil_append] at hs
  refine WC.seq' ?_
  refine WC.seq ?_
  refine WL.p (by rfl) (Yl.move (by rfl)) ?_
  refine WL.p (by rfl) (Yl.move (by rfl)) ?_
  refine WL.p (by rfl) (Yl.len_sl slu183 (by rfl)) ?_
  refine WL.p (by rfl) (Yl.lss (by rfl) (by rfl)) ?_
  refine WL.next ?_
  refine WC.condS (by rfl) (fun h1 => ?_) (fun h1 => ?_)
  ·
    replace h1 := of_decide_eq_true h1
    obtain ⟨y, hy⟩ := exists_get (l := v) (k := n) (by omega)
    have hd : a.l[n]? = some (mkFile (k + ((7 * n : Nat) : Int)) y) := by rw [hm, mkL_get hy, costL_take_const (by omega)]
    refine WC.skipn ?_
    refine WC.seq' ?_
    refine WC.block ?_
    refine WC.seq' ?_
    refine WC.quietn mixed (by kernel_rfl) hs ?_
    refine WQ.p (by rfl) (fun w hs => Yl.move (by rfl)) ?_
    refine WQ.p (by rfl) (fun w hs => Yl.move (by rfl)) ?_
    refine WQ.p (by rfl) (fun w hs => Yl.indexAddr slt183 (by rfl) (by rfl) (Ph.old h_a hs) (by rfl) (hd)) ?_
    refine WQ.p (by rfl) (fun w hs => Yl.fieldAddr fa187_0 (by rfl)) ?_
    refine WQ.p (by rfl) (fun w hs => Yl.loadC sca9 (by rfl) (Sl.Ok.at_ (Ph.old h_a hs) (by assumption)).2 (by rfl)) ?_
    refine WQ.p (by rfl) (fun w hs => Yl.move (by rfl)) ?_
    refine WQ.callp (by rfl) (fun w => Yc.func (by rfl) fn128) (fun w hs => (c_laws_markText _ _ (by omega))) (fun _ _ hs hb => hs.ext hb) ?_
    refine WQ.p (by rfl) (fun w hs => Yl.nes (by rfl) (by rfl)) ?_
    refine WQ.next ?_
    clear hs; intro w hs
    refine WC.condS (by rfl) (fun h2 => ?_) (fun h2 => ?_)
    ·
      replace h2 := not_eq_true h2
      replace h2 := of_decide_eq_false h2
      refine WC.seq ?_
      refine WL.p (by rfl) (Yl.assign (by rfl)) ?_
      refine WL.next ?_
      refine WC.ret ?_
      refine At.thenret ?_
      refine At.blockret ?_
      refine At.thenret ?_
      refine At.thenret ?_
      refine At.blockret ?_
      refine At.thenret ?_
      refine fin1' rfl (by rfl) ?_
      refine RetP.mk hs ?_
      first
        | exact absurd rfl h2
        | (exfalso; omega)
        | (rw [costL_const]; exact congrArg I (by omega))
    ·
      replace h2 := not_eq_false h2
      replace h2 := of_decide_eq_true h2
      refine WC.skipn ?_
      refine WC.seq ?_
      refine WL.p (by rfl) (Yl.move (by rfl)) ?_
      refine WL.p (by rfl) (Yl.add (by rfl) (by rfl) (by omega)) ?_
      refine WL.p (by rfl) (Yl.assign (by rfl)) ?_
      refine WL.next ?_
      refine WC.seq' ?_
      refine WC.seq ?_
      refine WL.p (by rfl) (Yl.move (by rfl)) ?_
      refine WL.p (by rfl) (Yl.move (by rfl)) ?_
      refine WL.p (by rfl) (Yl.indexAddr slt183 (by rfl) (by rfl) (Ph.old h_a hs) (by rfl) (hd)) ?_
      refine WL.p (by rfl) (Yl.fieldAddr fa187_1 (by rfl)) ?_
      refine WL.p (by rfl) (Yl.fieldAddr2 fa41_0 (by rfl)) ?_
      refine WL.p (by rfl) (Yl.loadC sca3 (by rfl) (Sl.Ok.at_ (Ph.old h_a hs) (by assumption)).2 (by rfl)) ?_
      refine WL.p (by rfl) (Yl.move (by rfl)) ?_
      refine WL.p (by rfl) (Yl.nei (by rfl) (by rfl)) ?_
      refine WL.next ?_
      refine WC.condS (by rfl) (fun h3 => ?_) (fun h3 => ?_)
      ·
        replace h3 := not_eq_true h3
        replace h3 := of_decide_eq_false h3
        refine WC.seq ?_
        refine WL.p (by rfl) (Yl.assign (by rfl)) ?_
        refine WL.next ?_
        refine WC.ret ?_
        refine At.thenret ?_
        refine At.blockret ?_
        refine At.thenret ?_
        refine At.thenret ?_
        refine At.blockret ?_
        refine At.thenret ?_
        refine fin1' rfl (by rfl) ?_
        refine RetP.mk hs ?_
        first
          | exact absurd rfl h3
          | (exfalso; omega)
          | (rw [costL_const]; exact congrArg I (by omega))
      ·
        replace h3 := not_eq_false h3
        replace h3 := of_decide_eq_true h3
        refine WC.skipn ?_
        refine WC.seq ?_
        refine WL.p (by rfl) (Yl.move (by rfl)) ?_
        refine WL.p (by rfl) (Yl.add (by rfl) (by rfl) (by omega)) ?_
        refine WL.p (by rfl) (Yl.assign (by rfl)) ?_
        refine WL.next ?_
        refine WC.seq' ?_
        refine WC.seq ?_
        refine WL.p (by rfl) (Yl.move (by rfl)) ?_
        refine WL.p (by rfl) (Yl.move (by rfl)) ?_
        refine WL.p (by rfl) (Yl.indexAddr slt183 (by rfl) (by rfl) (Ph.old h_a hs) (by rfl) (hd)) ?_
        refine WL.p (by rfl) (Yl.fieldAddr fa187_1 (by rfl)) ?_
        refine WL.p (by rfl) (Yl.fieldAddr2 fa41_1 (by rfl)) ?_
        refine WL.p (by rfl) (Yl.loadC sca3 (by rfl) (Sl.Ok.at_ (Ph.old h_a hs) (by assumption)).2 (by rfl)) ?_
        refine WL.p (by rfl) (Yl.move (by rfl)) ?_
        refine WL.p (by rfl) (Yl.nei (by rfl) (by rfl)) ?_
        refine WL.next ?_
        refine WC.condS (by rfl) (fun h4 => ?_) (fun h4 => ?_)
        ·
          replace h4 := not_eq_true h4
          replace h4 := of_decide_eq_false h4
          refine WC.seq ?_
          refine WL.p (by rfl) (Yl.assign (by rfl)) ?_
          refine WL.next ?_
          refine WC.ret ?_
          refine At.thenret ?_
          refine At.blockret ?_
          refine At.thenret ?_
          refine At.thenret ?_
          refine At.blockret ?_
          refine At.thenret ?_
          refine fin1' rfl (by rfl) ?_
          refine RetP.mk hs ?_
          first
            | exact absurd rfl h4
            | (exfalso; omega)
            | (rw [costL_const]; exact congrArg I (by omega))
        ·
          replace h4 := not_eq_false h4
          replace h4 := of_decide_eq_true h4
          refine WC.skipn ?_
          refine WC.seq ?_
          refine WL.p (by rfl) (Yl.move (by rfl)) ?_
          refine WL.p (by rfl) (Yl.add (by rfl) (by rfl) (by omega)) ?_
          refine WL.p (by rfl) (Yl.assign (by rfl)) ?_
          refine WL.next ?_
          refine WC.seq' ?_
          refine WC.quietn mixed (by kernel_rfl) hs ?_
          refine WQ.p (by rfl) (fun w hs => Yl.move (by rfl)) ?_
          refine WQ.p (by rfl) (fun w hs => Yl.move (by rfl)) ?_
          refine WQ.p (by rfl) (fun w hs => Yl.indexAddr slt183 (by rfl) (by rfl) (Ph.old h_a hs) (by rfl) (hd)) ?_
          refine WQ.p (by rfl) (fun w hs => Yl.fieldAddr fa187_1 (by rfl)) ?_
          refine WQ.p (by rfl) (fun w hs => Yl.fieldAddr2 fa41_2 (by rfl)) ?_
          refine WQ.p (by rfl) (fun w hs => Yl.loadC sca9 (by rfl) (Sl.Ok.at_ (Ph.old h_a hs) (by assumption)).2 (by rfl)) ?_
          refine WQ.p (by rfl) (fun w hs => Yl.move (by rfl)) ?_
          refine WQ.callp (by rfl) (fun w => Yc.func (by rfl) fn128) (fun w hs => (c_laws_markText _ _ (by omega))) (fun _ _ hs hb => hs.ext hb) ?_
          refine WQ.p (by rfl) (fun w hs => Yl.nes (by rfl) (by rfl)) ?_
          refine WQ.next ?_
          clear hs; intro w hs
          refine WC.condS (by rfl) (fun h5 => ?_) (fun h5 => ?_)
          ·
            replace h5 := not_eq_true h5
            replace h5 := of_decide_eq_false h5
            refine WC.seq ?_
            refine WL.p (by rfl) (Yl.assign (by rfl)) ?_
            refine WL.next ?_
            refine WC.ret ?_
            refine At.thenret ?_
            refine At.blockret ?_
            refine At.thenret ?_
            refine At.thenret ?_
            refine At.blockret ?_
            refine At.thenret ?_
            refine fin1' rfl (by rfl) ?_
            refine RetP.mk hs ?_
            first
              | exact absurd rfl h5
              | (exfalso; omega)
              | (rw [costL_const]; exact congrArg I (by omega))
          ·
            replace h5 := not_eq_false h5
            replace h5 := of_decide_eq_true h5
            refine WC.skipn ?_
            refine WC.seq ?_
            refine WL.p (by rfl) (Yl.move (by rfl)) ?_
            refine WL.p (by rfl) (Yl.add (by rfl) (by rfl) (by omega)) ?_
            refine WL.p (by rfl) (Yl.assign (by rfl)) ?_
            refine WL.next ?_
            refine WC.seq' ?_
            refine WC.seq ?_
            refine WL.p (by rfl) (Yl.move (by rfl)) ?_
            refine WL.p (by rfl) (Yl.move (by rfl)) ?_
            refine WL.p (by rfl) (Yl.indexAddr slt183 (by rfl) (by rfl) (Ph.old h_a hs) (by rfl) (hd)) ?_
            refine WL.p (by rfl) (Yl.fieldAddr fa187_1 (by rfl)) ?_
            refine WL.p (by rfl) (Yl.fieldAddr2 fa41_3 (by rfl)) ?_
            refine WL.p (by rfl) (Yl.loadC sca3 (by rfl) (Sl.Ok.at_ (Ph.old h_a hs) (by assumption)).2 (by rfl)) ?_
            refine WL.p (by rfl) (Yl.move (by rfl)) ?_
            refine WL.p (by rfl) (Yl.nei (by rfl) (by rfl)) ?_
            refine WL.next ?_
            refine WC.condS (by rfl) (fun h6 => ?_) (fun h6 => ?_)
            ·
              replace h6 := not_eq_true h6
              replace h6 := of_decide_eq_false h6
              refine WC.seq ?_
              refine WL.p (by rfl) (Yl.assign (by rfl)) ?_
              refine WL.next ?_
              refine WC.ret ?_
              refine At.thenret ?_
              refine At.blockret ?_
              refine At.thenret ?_
              refine At.thenret ?_
              refine At.blockret ?_
              refine At.thenret ?_
              refine fin1' rfl (by rfl) ?_
              refine RetP.mk hs ?_
              first
                | exact absurd rfl h6
                | (exfalso; omega)
                | (rw [costL_const]; exact congrArg I (by omega))
            ·
              replace h6 := not_eq_false h6
              replace h6 := of_decide_eq_true h6
              refine WC.skipn ?_
              refine WC.seq ?_
              refine WL.p (by rfl) (Yl.move (by rfl)) ?_
              refine WL.p (by rfl) (Yl.add (by rfl) (by rfl) (by omega)) ?_
              refine WL.p (by rfl) (Yl.assign (by rfl)) ?_
              refine WL.next ?_
              refine WC.seq' ?_
              refine WC.seq ?_
              refine WL.p (by rfl) (Yl.move (by rfl)) ?_
              refine WL.p (by rfl) (Yl.move (by rfl)) ?_
              refine WL.p (by rfl) (Yl.indexAddr slt183 (by rfl) (by rfl) (Ph.old h_a hs) (by rfl) (hd)) ?_
              refine WL.p (by rfl) (Yl.fieldAddr fa187_1 (by rfl)) ?_
              refine WL.p (by rfl) (Yl.fieldAddr2 fa41_4 (by rfl)) ?_
              refine WL.p (by rfl) (Yl.loadC sca4 (by rfl) (Sl.Ok.at_ (Ph.old h_a hs) (by assumption)).2 (by rfl)) ?_
              refine WL.p (by rfl) (Yl.move (by rfl)) ?_
              refine WL.p (by rfl) (Yl.remw (by rfl) (by rfl) (by decide)) ?_
              refine WL.p (by rfl) (Yl.eqi (by rfl) (by rfl)) ?_
              refine WL.p (by rfl) (Yl.neb bool4 (by rfl) (by rfl)) ?_
              refine WL.next ?_
              refine WC.condS (by rfl) (fun h7 => ?_) (fun h7 => ?_)
              ·
                replace h7 := not_eq_true h7
                replace h7 := beq_false h7
                refine WC.seq ?_
                refine WL.p (by rfl) (Yl.assign (by rfl)) ?_
                refine WL.next ?_
                refine WC.ret ?_
                refine At.thenret ?_
                refine At.blockret ?_
                refine At.thenret ?_
                refine At.thenret ?_
                refine At.blockret ?_
                refine At.thenret ?_
                refine fin1' rfl (by rfl) ?_
                refine RetP.mk hs ?_
                first
                  | exact absurd rfl h7
                  | (exfalso; omega)
                  | (rw [costL_const]; exact congrArg I (by omega))
              ·
                replace h7 := not_eq_false h7
                replace h7 := beq_true h7
                refine WC.skipn ?_
                refine WC.seq ?_
                refine WL.p (by rfl) (Yl.move (by rfl)) ?_
                refine WL.p (by rfl) (Yl.add (by rfl) (by rfl) (by omega)) ?_
                refine WL.p (by rfl) (Yl.assign (by rfl)) ?_
                refine WL.next ?_
                refine WC.seq' ?_
                refine WC.quietn mixed (by kernel_rfl) hs ?_
                refine WQ.p (by rfl) (fun w hs => Yl.move (by rfl)) ?_
                refine WQ.p (by rfl) (fun w hs => Yl.move (by rfl)) ?_
                refine WQ.p (by rfl) (fun w hs => Yl.indexAddr slt183 (by rfl) (by rfl) (Ph.old h_a hs) (by rfl) (hd)) ?_
                refine WQ.p (by rfl) (fun w hs => Yl.fieldAddr fa187_1 (by rfl)) ?_
                refine WQ.p (by rfl) (fun w hs => Yl.fieldAddr2 fa41_5 (by rfl)) ?_
                refine WQ.p (by rfl) (fun w hs => Yl.loadC sca9 (by rfl) (Sl.Ok.at_ (Ph.old h_a hs) (by assumption)).2 (by rfl)) ?_
                refine WQ.p (by rfl) (fun w hs => Yl.move (by rfl)) ?_
                refine WQ.callp (by rfl) (fun w => Yc.func (by rfl) fn128) (fun w hs => (c_laws_markText _ _ (by omega))) (fun _ _ hs hb => hs.ext hb) ?_
                refine WQ.p (by rfl) (fun w hs => Yl.nes (by rfl) (by rfl)) ?_
                refine WQ.next ?_
                clear hs; intro w hs
                refine WC.condS (by rfl) (fun h8 => ?_) (fun h8 => ?_)
                ·
                  replace h8 := not_eq_true h8
                  replace h8 := of_decide_eq_false h8
                  refine WC.seq ?_
                  refine WL.p (by rfl) (Yl.assign (by rfl)) ?_
                  refine WL.next ?_
                  refine WC.ret ?_
                  refine At.thenret ?_
                  refine At.blockret ?_
                  refine At.thenret ?_
                  refine At.thenret ?_
                  refine At.blockret ?_
                  refine At.thenret ?_
                  refine fin1' rfl (by rfl) ?_
                  refine RetP.mk hs ?_
                  first
                    | exact absurd rfl h8
                    | (exfalso; omega)
                    | (rw [costL_const]; exact congrArg I (by omega))
                ·
                  replace h8 := not_eq_false h8
                  replace h8 := of_decide_eq_true h8
                  refine WC.skipn ?_
                  refine WC.region ?_
                  refine WL.p (by rfl) (Yl.move (by rfl)) ?_
                  refine WL.p (by rfl) (Yl.add (by rfl) (by rfl) (by omega)) ?_
                  refine WL.p (by rfl) (Yl.assign (by rfl)) ?_
                  refine WL.nil ?_
                  refine At.blocknormal ?_
                  refine At.then_ ?_
                  refine WC.region ?_
                  refine WL.p (by rfl) (Yl.move (by rfl)) ?_
                  refine WL.p (by rfl) (Yl.add (by rfl) (by rfl) (by omega)) ?_
                  refine WL.p (by rfl) (Yl.assign (by rfl)) ?_
                  refine WL.nil ?_
                  refine At.roundC (n + 1) (hs.only (by repeat (first | exact Sel.nil | (apply Sel.cons; (repeat (first | exact Ext.here | apply Ext.there)))))) ⟨by rfl, trivial⟩ ⟨by rfl, by exact congrArg (fun z => some (I z)) (by omega), trivial⟩ ?_ ?_
                  ·
                    omega
                  ·
                    omega
  ·
    replace h1 := of_decide_eq_false h1
    refine WC.exit ?_
    refine At.thenexit ?_
    refine At.thenexit ?_
    refine At.blockexit ?_
    refine At.then_ ?_
    refine WC.seq ?_
    refine WL.p (by rfl) (Yl.move (by rfl)) ?_
    refine WL.p (by rfl) (Yl.assign (by rfl)) ?_
    refine WL.next ?_
    refine WC.ret ?_
    refine fin1' rfl (by rfl) ?_
    refine RetP.mk hs ?_
    first
      | exact absurd rfl h1
      | (exfalso; omega)
      | (rw [costL_const]; exact congrArg I (by omega))

theorem c_laws_heldServerS (a : (Sl PServer)) (k : Int) (v : List TServer) (w : World) (h_a : Ph.ok w a) (hk0 : 0 ≤ k) (hk : k + ((costL costServer (v) : Nat) : Int) ≤ 100000000) (hm : a.l.map PServer.lg = mkL mkServer costServer k v) : Calls Tryz.prog 82 [Sl.v a, I k].toArray w (RetP w (I (k + ((costL costServer (v) : Nat) : Int)))) := by
  have hw := h_a.lt
  have hc : a.l.length = v.length := by have := congrArg List.length hm; simpa [mkL_length] using this
  refine enterN 32 Tryz.func82 rfl rfl rfl ?_
  have hs := Sat.start w
  refine WC.seq ?_
  refine WL.p (by rfl) (Yl.assign (by rfl)) ?_
  refine WL.next ?_
  refine WC.seq' ?_
  refine WC.seq ?_
  refine WL.p (by rfl) (Yl.assign (by rfl)) ?_
  refine WL.next ?_
  refine WC.block ?_
  refine WC.loopC (ι := Nat) (fun n => a.l.length - n) (fun n => [(5, I (n : Int)), (1, I (k + ((costL costServer (v.take n) : Nat) : Int)))]) (fun _ => []) (fun n => n ≤ a.l.length) [(0, _)] 0 (hs) ⟨by rfl, trivial⟩ ⟨by rfl, by exact congrArg (fun z => some (I z)) (by simp [costL]), trivial⟩ ?_ ?_
  ·
    exact Nat.zero_le _
  clear hs; rintro n w hJ1 hs
  simp only [List.nil_append] at hs
  refine WC.seq' ?_
  refine WC.seq ?_
  refine WL.p (by rfl) (Yl.move (by rfl)) ?_
  refine WL.p (by rfl) (Yl.move (by rfl)) ?_
  refine WL.p (by rfl) (Yl.len_sl slu33 (by rfl)) ?_
  refine WL.p (by rfl) (Yl.lss (by rfl) (by rfl)) ?_
  refine WL.next ?_
  refine WC.condS (by rfl) (fun h1 => ?_) (fun h1 => ?_)
  ·
    replace h1 := of_decide_eq_true h1
    obtain ⟨d, hd⟩ := exists_get (l := a.l) (k := n) (by omega)
    obtain ⟨y, hy⟩ := exists_get (l := v) (k := n) (by omega)
    have hm0 : (a.l.map PServer.lg)[n]? = some d.lg := by rw [List.getElem?_map, hd]; rfl
    have hdy : d.lg = mkServer (k + ((costL costServer (v.take n) : Nat) : Int)) y := by rw [hm, mkL_get hy] at hm0; exact (Option.some.inj hm0).symm
    have hsp := costL_split (cost := costServer) hy
    simp only [costServer] at hsp
    refine WC.skipn ?_
    refine WC.seq' ?_
    refine WC.block ?_
    refine WC.seq' ?_
    refine WC.quietn mixed (by kernel_rfl) hs ?_
    refine WQ.p (by rfl) (fun w hs => Yl.move (by rfl)) ?_
    refine WQ.p (by rfl) (fun w hs => Yl.move (by rfl)) ?_
    refine WQ.p (by rfl) (fun w hs => Yl.indexAddr slt33 (by rfl) (by rfl) (Ph.old h_a hs) (by rfl) (hd)) ?_
    refine WQ.p (by rfl) (fun w hs => Yl.fieldAddr fa185_0 (by rfl)) ?_
    refine WQ.p (by rfl) (fun w hs => Yl.loadC sca9 (by rfl) (Sl.Ok.at_ (Ph.old h_a hs) (by assumption)).2 (by rfl)) ?_
    refine WQ.p (by rfl) (fun w hs => Yl.move (by rfl)) ?_
    refine WQ.callp (by rfl) (fun w => Yc.func (by rfl) fn128) (fun w hs => (c_laws_markText _ _ (by omega))) (fun _ _ hs hb => hs.ext hb) ?_
    refine WQ.p (by rfl) (fun w hs => Yl.nes (by rfl) (by rfl)) ?_
    refine WQ.next ?_
    clear hs; intro w hs
    refine WC.condS (by rfl) (fun h2 => ?_) (fun h2 => ?_)
    ·
      replace h2 := not_eq_true h2
      replace h2 := of_decide_eq_false h2
      refine WC.seq ?_
      refine WL.p (by rfl) (Yl.assign (by rfl)) ?_
      refine WL.next ?_
      refine WC.ret ?_
      refine At.thenret ?_
      refine At.blockret ?_
      refine At.thenret ?_
      refine At.thenret ?_
      refine At.blockret ?_
      refine At.thenret ?_
      refine fin1' rfl (by rfl) ?_
      refine RetP.mk hs ?_
      first
        | exact absurd rfl h2
        | exact absurd (congrArg TServer.host hdy) h2
        | (exfalso; omega)
        | exact congrArg I (by rw [List.take_of_length_le (by omega)])
    ·
      replace h2 := not_eq_false h2
      replace h2 := of_decide_eq_true h2
      refine WC.skipn ?_
      refine WC.seq ?_
      refine WL.p (by rfl) (Yl.move (by rfl)) ?_
      refine WL.p (by rfl) (Yl.add (by rfl) (by rfl) (by omega)) ?_
      refine WL.p (by rfl) (Yl.assign (by rfl)) ?_
      refine WL.next ?_
      refine WC.seq ?_
      refine WL.p (by rfl) (Yl.move (by rfl)) ?_
      refine WL.p (by rfl) (Yl.move (by rfl)) ?_
      refine WL.p (by rfl) (Yl.indexAddr slt33 (by rfl) (by rfl) (Ph.old h_a hs) (by rfl) (hd)) ?_
      refine WL.p (by rfl) (Yl.fieldAddr fa185_1 (by rfl)) ?_
      refine WL.p (by rfl) (Yl.loadC sca183 (by rfl) (Sl.Ok.at_ (Ph.old h_a hs) (by assumption)).2 (by rfl)) ?_
      refine WL.p (by rfl) (Yl.move (by rfl)) ?_
      refine WL.callp hs (by rfl) (Yc.func (by rfl) fn152) (c_laws_heldFileS _ _ y.files _ (Ph.old (Sl.Ok.elem h_a hd).files hs) (by first | assumption | omega | (simp only [lsz] at *; omega) | (simp only [lsz, strsz, TPolicy.size, TCache.size, TAddr.size, TRequest.size, TEntry.size, TResponse.size, TLine.size] at *; omega) | (simp only [lsz_map, TPage.size, TBuilder.size, TNode.size, TToken.size, TTokenizer.size, TServer.size, TFile.size, TNet.size, TCache.size, TSheet.size, strsz] at *; omega) | (simp only [lsz_map, TPage.size, TBuilder.size, TNode.size, TToken.size, TTokenizer.size, TServer.size, TFile.size, TNet.size, TCache.size, TSheet.size, strsz, lsz] at *; omega)) (by first | assumption | omega | (simp only [lsz] at *; omega) | (simp only [lsz, strsz, TPolicy.size, TCache.size, TAddr.size, TRequest.size, TEntry.size, TResponse.size, TLine.size] at *; omega) | (simp only [lsz_map, TPage.size, TBuilder.size, TNode.size, TToken.size, TTokenizer.size, TServer.size, TFile.size, TNet.size, TCache.size, TSheet.size, strsz] at *; omega) | (simp only [lsz_map, TPage.size, TBuilder.size, TNode.size, TToken.size, TTokenizer.size, TServer.size, TFile.size, TNet.size, TCache.size, TSheet.size, strsz, lsz] at *; omega)) (by exact congrArg TServer.files hdy)) ?_
      clear hs; intro w hs
      refine WL.p (by rfl) (Yl.assign (by rfl)) ?_
      refine WL.next ?_
      refine WC.seq ?_
      refine WL.p (by rfl) (Yl.move (by rfl)) ?_
      refine WL.p (by rfl) (Yl.lss (by rfl) (by rfl)) ?_
      refine WL.next ?_
      refine WC.condS (by rfl) (fun h3 => ?_) (fun h3 => ?_)
      ·
        replace h3 := of_decide_eq_true h3
        refine WC.seq ?_
        refine WL.p (by rfl) (Yl.assign (by rfl)) ?_
        refine WL.next ?_
        refine WC.ret ?_
        refine At.blockret ?_
        refine At.thenret ?_
        refine At.thenret ?_
        refine At.blockret ?_
        refine At.thenret ?_
        refine fin1' rfl (by rfl) ?_
        refine RetP.mk hs ?_
        first
          | exact absurd rfl h3
          | exact absurd (congrArg TServer.host hdy) h3
          | (exfalso; omega)
          | exact congrArg I (by rw [List.take_of_length_le (by omega)])
      ·
        replace h3 := of_decide_eq_false h3
        refine WC.skip ?_
        refine At.blocknormal ?_
        refine At.then_ ?_
        refine WC.region ?_
        refine WL.p (by rfl) (Yl.move (by rfl)) ?_
        refine WL.p (by rfl) (Yl.add (by rfl) (by rfl) (by omega)) ?_
        refine WL.p (by rfl) (Yl.assign (by rfl)) ?_
        refine WL.nil ?_
        refine At.roundC (n + 1) (hs.only (by repeat (first | exact Sel.nil | (apply Sel.cons; (repeat (first | exact Ext.here | apply Ext.there)))))) ⟨by rfl, trivial⟩ ⟨by rfl, by exact congrArg (fun z => some (I z)) (by rw [costL_step hy]; simp only [costServer]; omega), trivial⟩ ?_ ?_
        ·
          omega
        ·
          omega
  ·
    replace h1 := of_decide_eq_false h1
    refine WC.exit ?_
    refine At.thenexit ?_
    refine At.thenexit ?_
    refine At.blockexit ?_
    refine At.then_ ?_
    refine WC.seq ?_
    refine WL.p (by rfl) (Yl.move (by rfl)) ?_
    refine WL.p (by rfl) (Yl.assign (by rfl)) ?_
    refine WL.next ?_
    refine WC.ret ?_
    refine fin1' rfl (by rfl) ?_
    refine RetP.mk hs ?_
    first
      | exact absurd rfl h1
      | exact absurd (congrArg TServer.host hdy) h1
      | (exfalso; omega)
      | exact congrArg I (by rw [List.take_of_length_le (by omega)])

theorem c_laws_heldEntryS (a : (Sl TEntry)) (k : Int) (v : List TEntry) (w : World) (h_a : Ph.ok w a) (hk0 : 0 ≤ k) (hk : k + ((costL (fun _ => 10) (v) : Nat) : Int) ≤ 100000000) (hm : a.l = mkL mkEntry (fun _ => 10) k v) : Calls Tryz.prog 153 [Sl.v a, I k].toArray w (RetP w (I (k + ((costL (fun _ => 10) (v) : Nat) : Int)))) := by
  have hw := h_a.lt
  have hc : a.l.length = v.length := by rw [hm, mkL_length]
  have hk2 := hk
  rw [costL_const] at hk2
  refine enterN 118 Tryz.func153 rfl rfl rfl ?_
  have hs := Sat.start w
  refine WC.seq ?_
  refine WL.p (by rfl) (Yl.assign (by rfl)) ?_
  refine WL.next ?_
  refine WC.seq' ?_
  refine WC.seq ?_
  refine WL.p (by rfl) (Yl.assign (by rfl)) ?_
  refine WL.next ?_
  refine WC.block ?_
  refine WC.loopC (ι := Nat) (fun n => a.l.length - n) (fun n => [(5, I (n : Int)), (1, I (k + ((10 * n : Nat) : Int)))]) (fun _ => []) (fun n => n ≤ a.l.length) [(0, _)] 0 (hs) ⟨by rfl, trivial⟩ ⟨by rfl, by exact congrArg (fun z => some (I z)) (by omega), trivial⟩ ?_ ?_
  ·
    exact Nat.zero_le _
  clear hs; rintro n w hJ1 hs
  simp only [List.nil_append] at hs
  refine WC.seq' ?_
  refine WC.seq ?_
  refine WL.p (by rfl) (Yl.move (by rfl)) ?_
  refine WL.p (by rfl) (Yl.move (by rfl)) ?_
  refine WL.p (by rfl) (Yl.len_sl slu34 (by rfl)) ?_
  refine WL.p (by rfl) (Yl.lss (by rfl) (by rfl)) ?_
  refine WL.next ?_
  refine WC.condS (by rfl) (fun h1 => ?_) (fun h1 => ?_)
  ·
    replace h1 := of_decide_eq_true h1
    obtain ⟨y, hy⟩ := exists_get (l := v) (k := n) (by omega)
    have hd : a.l[n]? = some (mkEntry (k + ((10 * n : Nat) : Int)) y) := by rw [hm, mkL_get hy, costL_take_const (by omega)]
    refine WC.skipn ?_
    refine WC.seq' ?_
    refine WC.block ?_
    refine WC.seq' ?_
    refine WC.quietn mixed (by kernel_rfl) hs ?_
    refine WQ.p (by rfl) (fun w hs => Yl.move (by rfl)) ?_
    refine WQ.p (by rfl) (fun w hs => Yl.move (by rfl)) ?_
    refine WQ.p (by rfl) (fun w hs => Yl.indexAddr slt34 (by rfl) (by rfl) (Ph.old h_a hs) (by rfl) (hd)) ?_
    refine WQ.p (by rfl) (fun w hs => Yl.fieldAddr fa180_0 (by rfl)) ?_
    refine WQ.p (by rfl) (fun w hs => Yl.loadC sca9 (by rfl) (Sl.Ok.at_ (Ph.old h_a hs) (by assumption)).2 (by rfl)) ?_
    refine WQ.p (by rfl) (fun w hs => Yl.move (by rfl)) ?_
    refine WQ.callp (by rfl) (fun w => Yc.func (by rfl) fn128) (fun w hs => (c_laws_markText _ _ (by omega))) (fun _ _ hs hb => hs.ext hb) ?_
    refine WQ.p (by rfl) (fun w hs => Yl.nes (by rfl) (by rfl)) ?_
    refine WQ.next ?_
    clear hs; intro w hs
    refine WC.condS (by rfl) (fun h2 => ?_) (fun h2 => ?_)
    ·
      replace h2 := not_eq_true h2
      replace h2 := of_decide_eq_false h2
      refine WC.seq ?_
      refine WL.p (by rfl) (Yl.assign (by rfl)) ?_
      refine WL.next ?_
      refine WC.ret ?_
      refine At.thenret ?_
      refine At.blockret ?_
      refine At.thenret ?_
      refine At.thenret ?_
      refine At.blockret ?_
      refine At.thenret ?_
      refine fin1' rfl (by rfl) ?_
      refine RetP.mk hs ?_
      first
        | exact absurd rfl h2
        | (exfalso; omega)
        | (rw [costL_const]; exact congrArg I (by omega))
    ·
      replace h2 := not_eq_false h2
      replace h2 := of_decide_eq_true h2
      refine WC.skipn ?_
      refine WC.seq ?_
      refine WL.p (by rfl) (Yl.move (by rfl)) ?_
      refine WL.p (by rfl) (Yl.add (by rfl) (by rfl) (by omega)) ?_
      refine WL.p (by rfl) (Yl.assign (by rfl)) ?_
      refine WL.next ?_
      refine WC.seq' ?_
      refine WC.quietn mixed (by kernel_rfl) hs ?_
      refine WQ.p (by rfl) (fun w hs => Yl.move (by rfl)) ?_
      refine WQ.p (by rfl) (fun w hs => Yl.move (by rfl)) ?_
      refine WQ.p (by rfl) (fun w hs => Yl.indexAddr slt34 (by rfl) (by rfl) (Ph.old h_a hs) (by rfl) (hd)) ?_
      refine WQ.p (by rfl) (fun w hs => Yl.fieldAddr fa180_1 (by rfl)) ?_
      refine WQ.p (by rfl) (fun w hs => Yl.fieldAddr2 fa45_0 (by rfl)) ?_
      refine WQ.p (by rfl) (fun w hs => Yl.loadC sca9 (by rfl) (Sl.Ok.at_ (Ph.old h_a hs) (by assumption)).2 (by rfl)) ?_
      refine WQ.p (by rfl) (fun w hs => Yl.move (by rfl)) ?_
      refine WQ.callp (by rfl) (fun w => Yc.func (by rfl) fn128) (fun w hs => (c_laws_markText _ _ (by omega))) (fun _ _ hs hb => hs.ext hb) ?_
      refine WQ.p (by rfl) (fun w hs => Yl.nes (by rfl) (by rfl)) ?_
      refine WQ.next ?_
      clear hs; intro w hs
      refine WC.condS (by rfl) (fun h3 => ?_) (fun h3 => ?_)
      ·
        replace h3 := not_eq_true h3
        replace h3 := of_decide_eq_false h3
        refine WC.seq ?_
        refine WL.p (by rfl) (Yl.assign (by rfl)) ?_
        refine WL.next ?_
        refine WC.ret ?_
        refine At.thenret ?_
        refine At.blockret ?_
        refine At.thenret ?_
        refine At.thenret ?_
        refine At.blockret ?_
        refine At.thenret ?_
        refine fin1' rfl (by rfl) ?_
        refine RetP.mk hs ?_
        first
          | exact absurd rfl h3
          | (exfalso; omega)
          | (rw [costL_const]; exact congrArg I (by omega))
      ·
        replace h3 := not_eq_false h3
        replace h3 := of_decide_eq_true h3
        refine WC.skipn ?_
        refine WC.seq ?_
        refine WL.p (by rfl) (Yl.move (by rfl)) ?_
        refine WL.p (by rfl) (Yl.add (by rfl) (by rfl) (by omega)) ?_
        refine WL.p (by rfl) (Yl.assign (by rfl)) ?_
        refine WL.next ?_
        refine WC.seq' ?_
        refine WC.quietn mixed (by kernel_rfl) hs ?_
        refine WQ.p (by rfl) (fun w hs => Yl.move (by rfl)) ?_
        refine WQ.p (by rfl) (fun w hs => Yl.move (by rfl)) ?_
        refine WQ.p (by rfl) (fun w hs => Yl.indexAddr slt34 (by rfl) (by rfl) (Ph.old h_a hs) (by rfl) (hd)) ?_
        refine WQ.p (by rfl) (fun w hs => Yl.fieldAddr fa180_1 (by rfl)) ?_
        refine WQ.p (by rfl) (fun w hs => Yl.fieldAddr2 fa45_1 (by rfl)) ?_
        refine WQ.p (by rfl) (fun w hs => Yl.loadC sca9 (by rfl) (Sl.Ok.at_ (Ph.old h_a hs) (by assumption)).2 (by rfl)) ?_
        refine WQ.p (by rfl) (fun w hs => Yl.move (by rfl)) ?_
        refine WQ.callp (by rfl) (fun w => Yc.func (by rfl) fn128) (fun w hs => (c_laws_markText _ _ (by omega))) (fun _ _ hs hb => hs.ext hb) ?_
        refine WQ.p (by rfl) (fun w hs => Yl.nes (by rfl) (by rfl)) ?_
        refine WQ.next ?_
        clear hs; intro w hs
        refine WC.condS (by rfl) (fun h4 => ?_) (fun h4 => ?_)
        ·
          replace h4 := not_eq_true h4
          replace h4 := of_decide_eq_false h4
          refine WC.seq ?_
          refine WL.p (by rfl) (Yl.assign (by rfl)) ?_
          refine WL.next ?_
          refine WC.ret ?_
          refine At.thenret ?_
          refine At.blockret ?_
          refine At.thenret ?_
          refine At.thenret ?_
          refine At.blockret ?_
          refine At.thenret ?_
          refine fin1' rfl (by rfl) ?_
          refine RetP.mk hs ?_
          first
            | exact absurd rfl h4
            | (exfalso; omega)
            | (rw [costL_const]; exact congrArg I (by omega))
        ·
          replace h4 := not_eq_false h4
          replace h4 := of_decide_eq_true h4
          refine WC.skipn ?_
          refine WC.seq ?_
          refine WL.p (by rfl) (Yl.move (by rfl)) ?_
          refine WL.p (by rfl) (Yl.add (by rfl) (by rfl) (by omega)) ?_
          refine WL.p (by rfl) (Yl.assign (by rfl)) ?_
          refine WL.next ?_
          refine WC.seq' ?_
          refine WC.seq ?_
          refine WL.p (by rfl) (Yl.move (by rfl)) ?_
          refine WL.p (by rfl) (Yl.move (by rfl)) ?_
          refine WL.p (by rfl) (Yl.indexAddr slt34 (by rfl) (by rfl) (Ph.old h_a hs) (by rfl) (hd)) ?_
          refine WL.p (by rfl) (Yl.fieldAddr fa180_2 (by rfl)) ?_
          refine WL.p (by rfl) (Yl.fieldAddr2 fa41_0 (by rfl)) ?_
          refine WL.p (by rfl) (Yl.loadC sca3 (by rfl) (Sl.Ok.at_ (Ph.old h_a hs) (by assumption)).2 (by rfl)) ?_
          refine WL.p (by rfl) (Yl.move (by rfl)) ?_
          refine WL.p (by rfl) (Yl.nei (by rfl) (by rfl)) ?_
          refine WL.next ?_
          refine WC.condS (by rfl) (fun h5 => ?_) (fun h5 => ?_)
          ·
            replace h5 := not_eq_true h5
            replace h5 := of_decide_eq_false h5
            refine WC.seq ?_
            refine WL.p (by rfl) (Yl.assign (by rfl)) ?_
            refine WL.next ?_
            refine WC.ret ?_
            refine At.thenret ?_
            refine At.blockret ?_
            refine At.thenret ?_
            refine At.thenret ?_
            refine At.blockret ?_
            refine At.thenret ?_
            refine fin1' rfl (by rfl) ?_
            refine RetP.mk hs ?_
            first
              | exact absurd rfl h5
              | (exfalso; omega)
              | (rw [costL_const]; exact congrArg I (by omega))
          ·
            replace h5 := not_eq_false h5
            replace h5 := of_decide_eq_true h5
            refine WC.skipn ?_
            refine WC.seq ?_
            refine WL.p (by rfl) (Yl.move (by rfl)) ?_
            refine WL.p (by rfl) (Yl.add (by rfl) (by rfl) (by omega)) ?_
            refine WL.p (by rfl) (Yl.assign (by rfl)) ?_
            refine WL.next ?_
            refine WC.seq' ?_
            refine WC.seq ?_
            refine WL.p (by rfl) (Yl.move (by rfl)) ?_
            refine WL.p (by rfl) (Yl.move (by rfl)) ?_
            refine WL.p (by rfl) (Yl.indexAddr slt34 (by rfl) (by rfl) (Ph.old h_a hs) (by rfl) (hd)) ?_
            refine WL.p (by rfl) (Yl.fieldAddr fa180_2 (by rfl)) ?_
            refine WL.p (by rfl) (Yl.fieldAddr2 fa41_1 (by rfl)) ?_
            refine WL.p (by rfl) (Yl.loadC sca3 (by rfl) (Sl.Ok.at_ (Ph.old h_a hs) (by assumption)).2 (by rfl)) ?_
            refine WL.p (by rfl) (Yl.move (by rfl)) ?_
            refine WL.p (by rfl) (Yl.nei (by rfl) (by rfl)) ?_
            refine WL.next ?_
            refine WC.condS (by rfl) (fun h6 => ?_) (fun h6 => ?_)
            ·
              replace h6 := not_eq_true h6
              replace h6 := of_decide_eq_false h6
              refine WC.seq ?_
              refine WL.p (by rfl) (Yl.assign (by rfl)) ?_
              refine WL.next ?_
              refine WC.ret ?_
              refine At.thenret ?_
              refine At.blockret ?_
              refine At.thenret ?_
              refine At.thenret ?_
              refine At.blockret ?_
              refine At.thenret ?_
              refine fin1' rfl (by rfl) ?_
              refine RetP.mk hs ?_
              first
                | exact absurd rfl h6
                | (exfalso; omega)
                | (rw [costL_const]; exact congrArg I (by omega))
            ·
              replace h6 := not_eq_false h6
              replace h6 := of_decide_eq_true h6
              refine WC.skipn ?_
              refine WC.seq ?_
              refine WL.p (by rfl) (Yl.move (by rfl)) ?_
              refine WL.p (by rfl) (Yl.add (by rfl) (by rfl) (by omega)) ?_
              refine WL.p (by rfl) (Yl.assign (by rfl)) ?_
              refine WL.next ?_
              refine WC.seq' ?_
              refine WC.quietn mixed (by kernel_rfl) hs ?_
              refine WQ.p (by rfl) (fun w hs => Yl.move (by rfl)) ?_
              refine WQ.p (by rfl) (fun w hs => Yl.move (by rfl)) ?_
              refine WQ.p (by rfl) (fun w hs => Yl.indexAddr slt34 (by rfl) (by rfl) (Ph.old h_a hs) (by rfl) (hd)) ?_
              refine WQ.p (by rfl) (fun w hs => Yl.fieldAddr fa180_2 (by rfl)) ?_
              refine WQ.p (by rfl) (fun w hs => Yl.fieldAddr2 fa41_2 (by rfl)) ?_
              refine WQ.p (by rfl) (fun w hs => Yl.loadC sca9 (by rfl) (Sl.Ok.at_ (Ph.old h_a hs) (by assumption)).2 (by rfl)) ?_
              refine WQ.p (by rfl) (fun w hs => Yl.move (by rfl)) ?_
              refine WQ.callp (by rfl) (fun w => Yc.func (by rfl) fn128) (fun w hs => (c_laws_markText _ _ (by omega))) (fun _ _ hs hb => hs.ext hb) ?_
              refine WQ.p (by rfl) (fun w hs => Yl.nes (by rfl) (by rfl)) ?_
              refine WQ.next ?_
              clear hs; intro w hs
              refine WC.condS (by rfl) (fun h7 => ?_) (fun h7 => ?_)
              ·
                replace h7 := not_eq_true h7
                replace h7 := of_decide_eq_false h7
                refine WC.seq ?_
                refine WL.p (by rfl) (Yl.assign (by rfl)) ?_
                refine WL.next ?_
                refine WC.ret ?_
                refine At.thenret ?_
                refine At.blockret ?_
                refine At.thenret ?_
                refine At.thenret ?_
                refine At.blockret ?_
                refine At.thenret ?_
                refine fin1' rfl (by rfl) ?_
                refine RetP.mk hs ?_
                first
                  | exact absurd rfl h7
                  | (exfalso; omega)
                  | (rw [costL_const]; exact congrArg I (by omega))
              ·
                replace h7 := not_eq_false h7
                replace h7 := of_decide_eq_true h7
                refine WC.skipn ?_
                refine WC.seq ?_
                refine WL.p (by rfl) (Yl.move (by rfl)) ?_
                refine WL.p (by rfl) (Yl.add (by rfl) (by rfl) (by omega)) ?_
                refine WL.p (by rfl) (Yl.assign (by rfl)) ?_
                refine WL.next ?_
                refine WC.seq' ?_
                refine WC.seq ?_
                refine WL.p (by rfl) (Yl.move (by rfl)) ?_
                refine WL.p (by rfl) (Yl.move (by rfl)) ?_
                refine WL.p (by rfl) (Yl.indexAddr slt34 (by rfl) (by rfl) (Ph.old h_a hs) (by rfl) (hd)) ?_
                refine WL.p (by rfl) (Yl.fieldAddr fa180_2 (by rfl)) ?_
                refine WL.p (by rfl) (Yl.fieldAddr2 fa41_3 (by rfl)) ?_
                refine WL.p (by rfl) (Yl.loadC sca3 (by rfl) (Sl.Ok.at_ (Ph.old h_a hs) (by assumption)).2 (by rfl)) ?_
                refine WL.p (by rfl) (Yl.move (by rfl)) ?_
                refine WL.p (by rfl) (Yl.nei (by rfl) (by rfl)) ?_
                refine WL.next ?_
                refine WC.condS (by rfl) (fun h8 => ?_) (fun h8 => ?_)
                ·
                  replace h8 := not_eq_true h8
                  replace h8 := of_decide_eq_false h8
                  refine WC.seq ?_
                  refine WL.p (by rfl) (Yl.assign (by rfl)) ?_
                  refine WL.next ?_
                  refine WC.ret ?_
                  refine At.thenret ?_
                  refine At.blockret ?_
                  refine At.thenret ?_
                  refine At.thenret ?_
                  refine At.blockret ?_
                  refine At.thenret ?_
                  refine fin1' rfl (by rfl) ?_
                  refine RetP.mk hs ?_
                  first
                    | exact absurd rfl h8
                    | (exfalso; omega)
                    | (rw [costL_const]; exact congrArg I (by omega))
                ·
                  replace h8 := not_eq_false h8
                  replace h8 := of_decide_eq_true h8
                  refine WC.skipn ?_
                  refine WC.seq ?_
                  refine WL.p (by rfl) (Yl.move (by rfl)) ?_
                  refine WL.p (by rfl) (Yl.add (by rfl) (by rfl) (by omega)) ?_
                  refine WL.p (by rfl) (Yl.assign (by rfl)) ?_
                  refine WL.next ?_
                  refine WC.seq' ?_
                  refine WC.seq ?_
                  refine WL.p (by rfl) (Yl.move (by rfl)) ?_
                  refine WL.p (by rfl) (Yl.move (by rfl)) ?_
                  refine WL.p (by rfl) (Yl.indexAddr slt34 (by rfl) (by rfl) (Ph.old h_a hs) (by rfl) (hd)) ?_
                  refine WL.p (by rfl) (Yl.fieldAddr fa180_2 (by rfl)) ?_
                  refine WL.p (by rfl) (Yl.fieldAddr2 fa41_4 (by rfl)) ?_
                  refine WL.p (by rfl) (Yl.loadC sca4 (by rfl) (Sl.Ok.at_ (Ph.old h_a hs) (by assumption)).2 (by rfl)) ?_
                  refine WL.p (by rfl) (Yl.move (by rfl)) ?_
                  refine WL.p (by rfl) (Yl.remw (by rfl) (by rfl) (by decide)) ?_
                  refine WL.p (by rfl) (Yl.eqi (by rfl) (by rfl)) ?_
                  refine WL.p (by rfl) (Yl.neb bool4 (by rfl) (by rfl)) ?_
                  refine WL.next ?_
                  refine WC.condS (by rfl) (fun h9 => ?_) (fun h9 => ?_)
                  ·
                    replace h9 := not_eq_true h9
                    replace h9 := beq_false h9
                    refine WC.seq ?_
                    refine WL.p (by rfl) (Yl.assign (by rfl)) ?_
                    refine WL.next ?_
                    refine WC.ret ?_
                    refine At.thenret ?_
                    refine At.blockret ?_
                    refine At.thenret ?_
                    refine At.thenret ?_
                    refine At.blockret ?_
                    refine At.thenret ?_
                    refine fin1' rfl (by rfl) ?_
                    refine RetP.mk hs ?_
                    first
                      | exact absurd rfl h9
                      | (exfalso; omega)
                      | (rw [costL_const]; exact congrArg I (by omega))
                  ·
                    replace h9 := not_eq_false h9
                    replace h9 := beq_true h9
                    refine WC.skipn ?_
                    refine WC.seq ?_
                    refine WL.p (by rfl) (Yl.move (by rfl)) ?_
                    refine WL.p (by rfl) (Yl.add (by rfl) (by rfl) (by omega)) ?_
                    refine WL.p (by rfl) (Yl.assign (by rfl)) ?_
                    refine WL.next ?_
                    refine WC.seq' ?_
                    refine WC.quietn mixed (by kernel_rfl) hs ?_
                    refine WQ.p (by rfl) (fun w hs => Yl.move (by rfl)) ?_
                    refine WQ.p (by rfl) (fun w hs => Yl.move (by rfl)) ?_
                    refine WQ.p (by rfl) (fun w hs => Yl.indexAddr slt34 (by rfl) (by rfl) (Ph.old h_a hs) (by rfl) (hd)) ?_
                    refine WQ.p (by rfl) (fun w hs => Yl.fieldAddr fa180_2 (by rfl)) ?_
                    refine WQ.p (by rfl) (fun w hs => Yl.fieldAddr2 fa41_5 (by rfl)) ?_
                    refine WQ.p (by rfl) (fun w hs => Yl.loadC sca9 (by rfl) (Sl.Ok.at_ (Ph.old h_a hs) (by assumption)).2 (by rfl)) ?_
                    refine WQ.p (by rfl) (fun w hs => Yl.move (by rfl)) ?_
                    refine WQ.callp (by rfl) (fun w => Yc.func (by rfl) fn128) (fun w hs => (c_laws_markText _ _ (by omega))) (fun _ _ hs hb => hs.ext hb) ?_
                    refine WQ.p (by rfl) (fun w hs => Yl.nes (by rfl) (by rfl)) ?_
                    refine WQ.next ?_
                    clear hs; intro w hs
                    refine WC.condS (by rfl) (fun h10 => ?_) (fun h10 => ?_)
                    ·
                      replace h10 := not_eq_true h10
                      replace h10 := of_decide_eq_false h10
                      refine WC.seq ?_
                      refine WL.p (by rfl) (Yl.assign (by rfl)) ?_
                      refine WL.next ?_
                      refine WC.ret ?_
                      refine At.thenret ?_
                      refine At.blockret ?_
                      refine At.thenret ?_
                      refine At.thenret ?_
                      refine At.blockret ?_
                      refine At.thenret ?_
                      refine fin1' rfl (by rfl) ?_
                      refine RetP.mk hs ?_
                      first
                        | exact absurd rfl h10
                        | (exfalso; omega)
                        | (rw [costL_const]; exact congrArg I (by omega))
                    ·
                      replace h10 := not_eq_false h10
                      replace h10 := of_decide_eq_true h10
                      refine WC.skipn ?_
                      refine WC.seq ?_
                      refine WL.p (by rfl) (Yl.move (by rfl)) ?_
                      refine WL.p (by rfl) (Yl.add (by rfl) (by rfl) (by omega)) ?_
                      refine WL.p (by rfl) (Yl.assign (by rfl)) ?_
                      refine WL.next ?_
                      refine WC.seq' ?_
                      refine WC.seq ?_
                      refine WL.p (by rfl) (Yl.move (by rfl)) ?_
                      refine WL.p (by rfl) (Yl.move (by rfl)) ?_
                      refine WL.p (by rfl) (Yl.indexAddr slt34 (by rfl) (by rfl) (Ph.old h_a hs) (by rfl) (hd)) ?_
                      refine WL.p (by rfl) (Yl.fieldAddr fa180_3 (by rfl)) ?_
                      refine WL.p (by rfl) (Yl.loadC sca3 (by rfl) (Sl.Ok.at_ (Ph.old h_a hs) (by assumption)).2 (by rfl)) ?_
                      refine WL.p (by rfl) (Yl.move (by rfl)) ?_
                      refine WL.p (by rfl) (Yl.nei (by rfl) (by rfl)) ?_
                      refine WL.next ?_
                      refine WC.condS (by rfl) (fun h11 => ?_) (fun h11 => ?_)
                      ·
                        replace h11 := not_eq_true h11
                        replace h11 := of_decide_eq_false h11
                        refine WC.seq ?_
                        refine WL.p (by rfl) (Yl.assign (by rfl)) ?_
                        refine WL.next ?_
                        refine WC.ret ?_
                        refine At.thenret ?_
                        refine At.blockret ?_
                        refine At.thenret ?_
                        refine At.thenret ?_
                        refine At.blockret ?_
                        refine At.thenret ?_
                        refine fin1' rfl (by rfl) ?_
                        refine RetP.mk hs ?_
                        first
                          | exact absurd rfl h11
                          | (exfalso; omega)
                          | (rw [costL_const]; exact congrArg I (by omega))
                      ·
                        replace h11 := not_eq_false h11
                        replace h11 := of_decide_eq_true h11
                        refine WC.skipn ?_
                        refine WC.region ?_
                        refine WL.p (by rfl) (Yl.move (by rfl)) ?_
                        refine WL.p (by rfl) (Yl.add (by rfl) (by rfl) (by omega)) ?_
                        refine WL.p (by rfl) (Yl.assign (by rfl)) ?_
                        refine WL.nil ?_
                        refine At.blocknormal ?_
                        refine At.then_ ?_
                        refine WC.region ?_
                        refine WL.p (by rfl) (Yl.move (by rfl)) ?_
                        refine WL.p (by rfl) (Yl.add (by rfl) (by rfl) (by omega)) ?_
                        refine WL.p (by rfl) (Yl.assign (by rfl)) ?_
                        refine WL.nil ?_
                        refine At.roundC (n + 1) (hs.only (by repeat (first | exact Sel.nil | (apply Sel.cons; (repeat (first | exact Ext.here | apply Ext.there)))))) ⟨by rfl, trivial⟩ ⟨by rfl, by exact congrArg (fun z => some (I z)) (by omega), trivial⟩ ?_ ?_
                        ·
                          omega
                        ·
                          omega
  ·
    replace h1 := of_decide_eq_false h1
    refine WC.exit ?_
    refine At.thenexit ?_
    refine At.thenexit ?_
    refine At.blockexit ?_
    refine At.then_ ?_
    refine WC.seq ?_
    refine WL.p (by rfl) (Yl.move (by rfl)) ?_
    refine WL.p (by rfl) (Yl.assign (by rfl)) ?_
    refine WL.next ?_
    refine WC.ret ?_
    refine fin1' rfl (by rfl) ?_
    refine RetP.mk hs ?_
    first
      | exact absurd rfl h1
      | (exfalso; omega)
      | (rw [costL_const]; exact congrArg I (by omega))

theorem c_laws_heldCache (a : PCache) (k : Int) (v : TCache) (w : World) (h_a : Ph.ok w a) (hk0 : 0 ≤ k) (hk : k + ((costoCache v : Nat) : Int) ≤ 100000000) (hm : a.lg = mkoCache k v) : Calls Tryz.prog 83 [.agg #[Sl.v a.entries], I k].toArray w (RetP w (I (k + ((costoCache v : Nat) : Int)))) := by
  have hk2 := hk
  simp only [costoCache, costoCache] at hk2
  refine enterN 12 Tryz.func83 rfl rfl rfl ?_
  have hs := Sat.start w
  refine WC.seq ?_
  refine WL.r (by rfl) (Yr.box hs (by rfl) (by rfl)) ?_
  clear hs; rintro _ w ⟨b1, rfl, hb, hs⟩; clear hb
  refine WL.p (by rfl) (Yl.assign (by rfl)) ?_
  refine WL.next ?_
  refine WC.seq ?_
  refine WL.p (by rfl) (Yl.fieldAddr fa36_0 (by rfl)) ?_
  refine WL.p (by rfl) (Yl.loadB sca34 (by rfl) hs (by repeat (first | exact List.mem_cons_self | apply List.mem_cons_of_mem)) (by rfl)) ?_
  refine WL.p (by rfl) (Yl.move (by rfl)) ?_
  refine WL.callp hs (by rfl) (Yc.func (by rfl) fn153) (c_laws_heldEntryS _ _ v.entries _ (Ph.old h_a.entries hs) (by first | assumption | omega | (simp only [costServer, costNode, costSheet, costToken, costoPolicy, costoCache, costoNet, costoSheet, costoBuilder, costoToken] at *; omega)) (by first | assumption | omega | (simp only [costServer, costNode, costSheet, costToken, costoPolicy, costoCache, costoNet, costoSheet, costoBuilder, costoToken] at *; omega)) (by exact congrArg TCache.entries hm)) ?_
  clear hs; intro w hs
  refine WL.p (by rfl) (Yl.assign (by rfl)) ?_
  refine WL.next ?_
  refine WC.seq' ?_
  refine WC.seq ?_
  refine WL.p (by rfl) (Yl.move (by rfl)) ?_
  refine WL.p (by rfl) (Yl.lss (by rfl) (by rfl)) ?_
  refine WL.next ?_
  refine WC.condS (by rfl) (fun h1 => ?_) (fun h1 => ?_)
  ·
    replace h1 := of_decide_eq_true h1
    refine WC.seq ?_
    refine WL.p (by rfl) (Yl.assign (by rfl)) ?_
    refine WL.next ?_
    refine WC.ret ?_
    refine At.thenret ?_
    refine fin1' rfl (by rfl) ?_
    refine RetP.mk hs ?_
    first
      | (exfalso; omega)
      | rfl
      | exact congrArg I (by simp only [costoCache, costoCache]; omega)
  ·
    replace h1 := of_decide_eq_false h1
    refine WC.skipn ?_
    refine WC.seq ?_
    refine WL.p (by rfl) (Yl.move (by rfl)) ?_
    refine WL.p (by rfl) (Yl.assign (by rfl)) ?_
    refine WL.next ?_
    refine WC.ret ?_
    refine fin1' rfl (by rfl) ?_
    refine RetP.mk hs ?_
    first
      | (exfalso; omega)
      | rfl
      | exact congrArg I (by simp only [costoCache, costoCache]; omega)

theorem c_laws_heldSentS (a : (Sl TSent)) (k : Int) (v : List TSent) (w : World) (h_a : Ph.ok w a) (hk0 : 0 ≤ k) (hk : k + ((costL (fun _ => 4) (v) : Nat) : Int) ≤ 100000000) (hm : a.l = mkL mkSent (fun _ => 4) k v) : Calls Tryz.prog 84 [Sl.v a, I k].toArray w (RetP w (I (k + ((costL (fun _ => 4) (v) : Nat) : Int)))) := by
  have hw := h_a.lt
  have hc : a.l.length = v.length := by rw [hm, mkL_length]
  have hk2 := hk
  rw [costL_const] at hk2
  refine enterN 56 Tryz.func84 rfl rfl rfl ?_
  have hs := Sat.start w
  refine WC.seq ?_
  refine WL.p (by rfl) (Yl.assign (by rfl)) ?_
  refine WL.next ?_
  refine WC.seq' ?_
  refine WC.seq ?_
  refine WL.p (by rfl) (Yl.assign (by rfl)) ?_
  refine WL.next ?_
  refine WC.block ?_
  refine WC.loopC (ι := Nat) (fun n => a.l.length - n) (fun n => [(5, I (n : Int)), (1, I (k + ((4 * n : Nat) : Int)))]) (fun _ => []) (fun n => n ≤ a.l.length) [(0, _)] 0 (hs) ⟨by rfl, trivial⟩ ⟨by rfl, by exact congrArg (fun z => some (I z)) (by omega), trivial⟩ ?_ ?_
  ·
    exact Nat.zero_le _
  clear hs; rintro n w hJ1 hs
  simp only [List.nil_append] at hs
  refine WC.seq' ?_
  refine WC.seq ?_
  refine WL.p (by rfl) (Yl.move (by rfl)) ?_
  refine WL.p (by rfl) (Yl.move (by rfl)) ?_
  refine WL.p (by rfl) (Yl.len_sl slu37 (by rfl)) ?_
  refine WL.p (by rfl) (Yl.lss (by rfl) (by rfl)) ?_
  refine WL.next ?_
  refine WC.condS (by rfl) (fun h1 => ?_) (fun h1 => ?_)
  ·
    replace h1 := of_decide_eq_true h1
    obtain ⟨y, hy⟩ := exists_get (l := v) (k := n) (by omega)
    have hd : a.l[n]? = some (mkSent (k + ((4 * n : Nat) : Int)) y) := by rw [hm, mkL_get hy, costL_take_const (by omega)]
    refine WC.skipn ?_
    refine WC.seq' ?_
    refine WC.block ?_
    refine WC.seq' ?_
    refine WC.quietn mixed (by kernel_rfl) hs ?_
    refine WQ.p (by rfl) (fun w hs => Yl.move (by rfl)) ?_
    refine WQ.p (by rfl) (fun w hs => Yl.move (by rfl)) ?_
    refine WQ.p (by rfl) (fun w hs => Yl.indexAddr slt37 (by rfl) (by rfl) (Ph.old h_a hs) (by rfl) (hd)) ?_
    refine WQ.p (by rfl) (fun w hs => Yl.fieldAddr fa123_0 (by rfl)) ?_
    refine WQ.p (by rfl) (fun w hs => Yl.loadC sca9 (by rfl) (Sl.Ok.at_ (Ph.old h_a hs) (by assumption)).2 (by rfl)) ?_
    refine WQ.p (by rfl) (fun w hs => Yl.move (by rfl)) ?_
    refine WQ.callp (by rfl) (fun w => Yc.func (by rfl) fn128) (fun w hs => (c_laws_markText _ _ (by omega))) (fun _ _ hs hb => hs.ext hb) ?_
    refine WQ.p (by rfl) (fun w hs => Yl.nes (by rfl) (by rfl)) ?_
    refine WQ.next ?_
    clear hs; intro w hs
    refine WC.condS (by rfl) (fun h2 => ?_) (fun h2 => ?_)
    ·
      replace h2 := not_eq_true h2
      replace h2 := of_decide_eq_false h2
      refine WC.seq ?_
      refine WL.p (by rfl) (Yl.assign (by rfl)) ?_
      refine WL.next ?_
      refine WC.ret ?_
      refine At.thenret ?_
      refine At.blockret ?_
      refine At.thenret ?_
      refine At.thenret ?_
      refine At.blockret ?_
      refine At.thenret ?_
      refine fin1' rfl (by rfl) ?_
      refine RetP.mk hs ?_
      first
        | exact absurd rfl h2
        | (exfalso; omega)
        | (rw [costL_const]; exact congrArg I (by omega))
    ·
      replace h2 := not_eq_false h2
      replace h2 := of_decide_eq_true h2
      refine WC.skipn ?_
      refine WC.seq ?_
      refine WL.p (by rfl) (Yl.move (by rfl)) ?_
      refine WL.p (by rfl) (Yl.add (by rfl) (by rfl) (by omega)) ?_
      refine WL.p (by rfl) (Yl.assign (by rfl)) ?_
      refine WL.next ?_
      refine WC.seq' ?_
      refine WC.quietn mixed (by kernel_rfl) hs ?_
      refine WQ.p (by rfl) (fun w hs => Yl.move (by rfl)) ?_
      refine WQ.p (by rfl) (fun w hs => Yl.move (by rfl)) ?_
      refine WQ.p (by rfl) (fun w hs => Yl.indexAddr slt37 (by rfl) (by rfl) (Ph.old h_a hs) (by rfl) (hd)) ?_
      refine WQ.p (by rfl) (fun w hs => Yl.fieldAddr fa123_1 (by rfl)) ?_
      refine WQ.p (by rfl) (fun w hs => Yl.fieldAddr2 fa45_0 (by rfl)) ?_
      refine WQ.p (by rfl) (fun w hs => Yl.loadC sca9 (by rfl) (Sl.Ok.at_ (Ph.old h_a hs) (by assumption)).2 (by rfl)) ?_
      refine WQ.p (by rfl) (fun w hs => Yl.move (by rfl)) ?_
      refine WQ.callp (by rfl) (fun w => Yc.func (by rfl) fn128) (fun w hs => (c_laws_markText _ _ (by omega))) (fun _ _ hs hb => hs.ext hb) ?_
      refine WQ.p (by rfl) (fun w hs => Yl.nes (by rfl) (by rfl)) ?_
      refine WQ.next ?_
      clear hs; intro w hs
      refine WC.condS (by rfl) (fun h3 => ?_) (fun h3 => ?_)
      ·
        replace h3 := not_eq_true h3
        replace h3 := of_decide_eq_false h3
        refine WC.seq ?_
        refine WL.p (by rfl) (Yl.assign (by rfl)) ?_
        refine WL.next ?_
        refine WC.ret ?_
        refine At.thenret ?_
        refine At.blockret ?_
        refine At.thenret ?_
        refine At.thenret ?_
        refine At.blockret ?_
        refine At.thenret ?_
        refine fin1' rfl (by rfl) ?_
        refine RetP.mk hs ?_
        first
          | exact absurd rfl h3
          | (exfalso; omega)
          | (rw [costL_const]; exact congrArg I (by omega))
      ·
        replace h3 := not_eq_false h3
        replace h3 := of_decide_eq_true h3
        refine WC.skipn ?_
        refine WC.seq ?_
        refine WL.p (by rfl) (Yl.move (by rfl)) ?_
        refine WL.p (by rfl) (Yl.add (by rfl) (by rfl) (by omega)) ?_
        refine WL.p (by rfl) (Yl.assign (by rfl)) ?_
        refine WL.next ?_
        refine WC.seq' ?_
        refine WC.quietn mixed (by kernel_rfl) hs ?_
        refine WQ.p (by rfl) (fun w hs => Yl.move (by rfl)) ?_
        refine WQ.p (by rfl) (fun w hs => Yl.move (by rfl)) ?_
        refine WQ.p (by rfl) (fun w hs => Yl.indexAddr slt37 (by rfl) (by rfl) (Ph.old h_a hs) (by rfl) (hd)) ?_
        refine WQ.p (by rfl) (fun w hs => Yl.fieldAddr fa123_1 (by rfl)) ?_
        refine WQ.p (by rfl) (fun w hs => Yl.fieldAddr2 fa45_1 (by rfl)) ?_
        refine WQ.p (by rfl) (fun w hs => Yl.loadC sca9 (by rfl) (Sl.Ok.at_ (Ph.old h_a hs) (by assumption)).2 (by rfl)) ?_
        refine WQ.p (by rfl) (fun w hs => Yl.move (by rfl)) ?_
        refine WQ.callp (by rfl) (fun w => Yc.func (by rfl) fn128) (fun w hs => (c_laws_markText _ _ (by omega))) (fun _ _ hs hb => hs.ext hb) ?_
        refine WQ.p (by rfl) (fun w hs => Yl.nes (by rfl) (by rfl)) ?_
        refine WQ.next ?_
        clear hs; intro w hs
        refine WC.condS (by rfl) (fun h4 => ?_) (fun h4 => ?_)
        ·
          replace h4 := not_eq_true h4
          replace h4 := of_decide_eq_false h4
          refine WC.seq ?_
          refine WL.p (by rfl) (Yl.assign (by rfl)) ?_
          refine WL.next ?_
          refine WC.ret ?_
          refine At.thenret ?_
          refine At.blockret ?_
          refine At.thenret ?_
          refine At.thenret ?_
          refine At.blockret ?_
          refine At.thenret ?_
          refine fin1' rfl (by rfl) ?_
          refine RetP.mk hs ?_
          first
            | exact absurd rfl h4
            | (exfalso; omega)
            | (rw [costL_const]; exact congrArg I (by omega))
        ·
          replace h4 := not_eq_false h4
          replace h4 := of_decide_eq_true h4
          refine WC.skipn ?_
          refine WC.seq ?_
          refine WL.p (by rfl) (Yl.move (by rfl)) ?_
          refine WL.p (by rfl) (Yl.add (by rfl) (by rfl) (by omega)) ?_
          refine WL.p (by rfl) (Yl.assign (by rfl)) ?_
          refine WL.next ?_
          refine WC.seq' ?_
          refine WC.seq ?_
          refine WL.p (by rfl) (Yl.move (by rfl)) ?_
          refine WL.p (by rfl) (Yl.move (by rfl)) ?_
          refine WL.p (by rfl) (Yl.indexAddr slt37 (by rfl) (by rfl) (Ph.old h_a hs) (by rfl) (hd)) ?_
          refine WL.p (by rfl) (Yl.fieldAddr fa123_2 (by rfl)) ?_
          refine WL.p (by rfl) (Yl.loadC sca4 (by rfl) (Sl.Ok.at_ (Ph.old h_a hs) (by assumption)).2 (by rfl)) ?_
          refine WL.p (by rfl) (Yl.move (by rfl)) ?_
          refine WL.p (by rfl) (Yl.remw (by rfl) (by rfl) (by decide)) ?_
          refine WL.p (by rfl) (Yl.eqi (by rfl) (by rfl)) ?_
          refine WL.p (by rfl) (Yl.neb bool4 (by rfl) (by rfl)) ?_
          refine WL.next ?_
          refine WC.condS (by rfl) (fun h5 => ?_) (fun h5 => ?_)
          ·
            replace h5 := not_eq_true h5
            replace h5 := beq_false h5
            refine WC.seq ?_
            refine WL.p (by rfl) (Yl.assign (by rfl)) ?_
            refine WL.next ?_
            refine WC.ret ?_
            refine At.thenret ?_
            refine At.blockret ?_
            refine At.thenret ?_
            refine At.thenret ?_
            refine At.blockret ?_
            refine At.thenret ?_
            refine fin1' rfl (by rfl) ?_
            refine RetP.mk hs ?_
            first
              | exact absurd rfl h5
              | (exfalso; omega)
              | (rw [costL_const]; exact congrArg I (by omega))
          ·
            replace h5 := not_eq_false h5
            replace h5 := beq_true h5
            refine WC.skipn ?_
            refine WC.region ?_
            refine WL.p (by rfl) (Yl.move (by rfl)) ?_
            refine WL.p (by rfl) (Yl.add (by rfl) (by rfl) (by omega)) ?_
            refine WL.p (by rfl) (Yl.assign (by rfl)) ?_
            refine WL.nil ?_
            refine At.blocknormal ?_
            refine At.then_ ?_
            refine WC.region ?_
            refine WL.p (by rfl) (Yl.move (by rfl)) ?_
            refine WL.p (by rfl) (Yl.add (by rfl) (by rfl) (by omega)) ?_
            refine WL.p (by rfl) (Yl.assign (by rfl)) ?_
            refine WL.nil ?_
            refine At.roundC (n + 1) (hs.only (by repeat (first | exact Sel.nil | (apply Sel.cons; (repeat (first | exact Ext.here | apply Ext.there)))))) ⟨by rfl, trivial⟩ ⟨by rfl, by exact congrArg (fun z => some (I z)) (by omega), trivial⟩ ?_ ?_
            ·
              omega
            ·
              omega
  ·
    replace h1 := of_decide_eq_false h1
    refine WC.exit ?_
    refine At.thenexit ?_
    refine At.thenexit ?_
    refine At.blockexit ?_
    refine At.then_ ?_
    refine WC.seq ?_
    refine WL.p (by rfl) (Yl.move (by rfl)) ?_
    refine WL.p (by rfl) (Yl.assign (by rfl)) ?_
    refine WL.next ?_
    refine WC.ret ?_
    refine fin1' rfl (by rfl) ?_
    refine RetP.mk hs ?_
    first
      | exact absurd rfl h1
      | (exfalso; omega)
      | (rw [costL_const]; exact congrArg I (by omega))

theorem c_laws_heldNet (a : PNet) (k : Int) (v : TNet) (w : World) (h_a : Ph.ok w a) (hk0 : 0 ≤ k) (hk : k + ((costoNet v : Nat) : Int) ≤ 100000000) (hm : a.lg = mkoNet k v) : Calls Tryz.prog 20 [.agg #[Sl.v a.servers, Sl.v a.cache.entries, Sl.v a.log, I a.now], I k].toArray w (RetP w (I (k + ((costoNet v : Nat) : Int)))) := by
  have hk2 := hk
  simp only [costoNet, costoCache] at hk2
  refine enterN 24 Tryz.func20 rfl rfl rfl ?_
  have hs := Sat.start w
  refine WC.seq ?_
  refine WL.r (by rfl) (Yr.box hs (by rfl) (by rfl)) ?_
  clear hs; rintro _ w ⟨b1, rfl, hb, hs⟩; clear hb
  refine WL.p (by rfl) (Yl.assign (by rfl)) ?_
  refine WL.next ?_
  refine WC.seq ?_
  refine WL.p (by rfl) (Yl.fieldAddr fa39_0 (by rfl)) ?_
  refine WL.p (by rfl) (Yl.loadB sca33 (by rfl) hs (by repeat (first | exact List.mem_cons_self | apply List.mem_cons_of_mem)) (by rfl)) ?_
  refine WL.p (by rfl) (Yl.move (by rfl)) ?_
  refine WL.callp hs (by rfl) (Yc.func (by rfl) fn82) (c_laws_heldServerS _ _ v.servers _ (Ph.old h_a.servers hs) (by first | assumption | omega | (simp only [costServer, costNode, costSheet, costToken, costoPolicy, costoCache, costoNet, costoSheet, costoBuilder, costoToken] at *; omega)) (by first | assumption | omega | (simp only [costServer, costNode, costSheet, costToken, costoPolicy, costoCache, costoNet, costoSheet, costoBuilder, costoToken] at *; omega)) (by exact congrArg TNet.servers hm)) ?_
  clear hs; intro w hs
  refine WL.p (by rfl) (Yl.assign (by rfl)) ?_
  refine WL.next ?_
  refine WC.seq' ?_
  refine WC.seq ?_
  refine WL.p (by rfl) (Yl.move (by rfl)) ?_
  refine WL.p (by rfl) (Yl.lss (by rfl) (by rfl)) ?_
  refine WL.next ?_
  refine WC.condS (by rfl) (fun h1 => ?_) (fun h1 => ?_)
  ·
    replace h1 := of_decide_eq_true h1
    refine WC.seq ?_
    refine WL.p (by rfl) (Yl.assign (by rfl)) ?_
    refine WL.next ?_
    refine WC.ret ?_
    refine At.thenret ?_
    refine fin1' rfl (by rfl) ?_
    refine RetP.mk hs ?_
    first
      | (exfalso; omega)
      | rfl
      | exact congrArg I (by simp only [costoNet, costoCache]; omega)
  ·
    replace h1 := of_decide_eq_false h1
    refine WC.skipn ?_
    refine WC.seq ?_
    refine WL.p (by rfl) (Yl.fieldAddr fa39_1 (by rfl)) ?_
    refine WL.p (by rfl) (Yl.loadAB agg36 (by rfl) hs (by repeat (first | exact List.mem_cons_self | apply List.mem_cons_of_mem)) (by rfl) (by rfl)) ?_
    refine WL.p (by rfl) (Yl.move (by rfl)) ?_
    refine WL.callp hs (by rfl) (Yc.func (by rfl) fn83) (c_laws_heldCache _ _ v.cache _ ⟨(Ph.old h_a.cache.entries hs)⟩ (by first | assumption | omega | (simp only [costServer, costNode, costSheet, costToken, costoPolicy, costoCache, costoNet, costoSheet, costoBuilder, costoToken] at *; omega)) (by first | assumption | omega | (simp only [costServer, costNode, costSheet, costToken, costoPolicy, costoCache, costoNet, costoSheet, costoBuilder, costoToken] at *; omega)) (by exact congrArg TNet.cache hm)) ?_
    clear hs; intro w hs
    refine WL.p (by rfl) (Yl.assign (by rfl)) ?_
    refine WL.next ?_
    refine WC.seq' ?_
    refine WC.seq ?_
    refine WL.p (by rfl) (Yl.move (by rfl)) ?_
    refine WL.p (by rfl) (Yl.lss (by rfl) (by rfl)) ?_
    refine WL.next ?_
    refine WC.condS (by rfl) (fun h2 => ?_) (fun h2 => ?_)
    ·
      replace h2 := of_decide_eq_true h2
      refine WC.seq ?_
      refine WL.p (by rfl) (Yl.assign (by rfl)) ?_
      refine WL.next ?_
      refine WC.ret ?_
      refine At.thenret ?_
      refine fin1' rfl (by rfl) ?_
      refine RetP.mk hs ?_
      first
        | (exfalso; omega)
        | rfl
        | exact congrArg I (by simp only [costoNet, costoCache]; omega)
    ·
      replace h2 := of_decide_eq_false h2
      refine WC.skipn ?_
      refine WC.seq ?_
      refine WL.p (by rfl) (Yl.fieldAddr fa39_2 (by rfl)) ?_
      refine WL.p (by rfl) (Yl.loadB sca37 (by rfl) hs (by repeat (first | exact List.mem_cons_self | apply List.mem_cons_of_mem)) (by rfl)) ?_
      refine WL.p (by rfl) (Yl.move (by rfl)) ?_
      refine WL.callp hs (by rfl) (Yc.func (by rfl) fn84) (c_laws_heldSentS _ _ v.log _ (Ph.old h_a.log hs) (by first | assumption | omega | (simp only [costServer, costNode, costSheet, costToken, costoPolicy, costoCache, costoNet, costoSheet, costoBuilder, costoToken] at *; omega)) (by first | assumption | omega | (simp only [costServer, costNode, costSheet, costToken, costoPolicy, costoCache, costoNet, costoSheet, costoBuilder, costoToken] at *; omega)) (by exact congrArg TNet.log hm)) ?_
      clear hs; intro w hs
      refine WL.p (by rfl) (Yl.assign (by rfl)) ?_
      refine WL.next ?_
      refine WC.seq' ?_
      refine WC.seq ?_
      refine WL.p (by rfl) (Yl.move (by rfl)) ?_
      refine WL.p (by rfl) (Yl.lss (by rfl) (by rfl)) ?_
      refine WL.next ?_
      refine WC.condS (by rfl) (fun h3 => ?_) (fun h3 => ?_)
      ·
        replace h3 := of_decide_eq_true h3
        refine WC.seq ?_
        refine WL.p (by rfl) (Yl.assign (by rfl)) ?_
        refine WL.next ?_
        refine WC.ret ?_
        refine At.thenret ?_
        refine fin1' rfl (by rfl) ?_
        refine RetP.mk hs ?_
        first
          | (exfalso; omega)
          | rfl
          | exact congrArg I (by simp only [costoNet, costoCache]; omega)
      ·
        replace h3 := of_decide_eq_false h3
        refine WC.skipn ?_
        refine WC.seq ?_
        refine WL.p (by rfl) (Yl.move (by rfl)) ?_
        refine WL.p (by rfl) (Yl.assign (by rfl)) ?_
        refine WL.next ?_
        refine WC.ret ?_
        refine fin1' rfl (by rfl) ?_
        refine RetP.mk hs ?_
        first
          | (exfalso; omega)
          | rfl
          | exact congrArg I (by simp only [costoNet, costoCache]; omega)

theorem c_spec_l12Server (l : (Sl PServer)) (host : Str) (w : World) (h_l : Ph.ok w l)  : Calls Tryz.prog 136 [Sl.v l, S host].toArray w (RetP w (I (idxF (fun s : PServer => decide (s.host = host)) l.l 0))) := by
  have hw := h_l.lt
  refine enterN 20 Tryz.func136 rfl rfl rfl ?_
  have hs := Sat.start w
  refine WC.seq ?_
  refine WL.p (by rfl) (Yl.assign (by rfl)) ?_
  refine WL.next ?_
  refine WC.seq' ?_
  refine WC.seq ?_
  refine WL.p (by rfl) (Yl.assign (by rfl)) ?_
  refine WL.next ?_
  refine WC.block ?_
  refine WC.loopC (ι := Nat) (fun k => l.l.length - k) (fun k => [(5, I (k : Int))]) (fun _ => []) (fun k => idxF (fun s : PServer => decide (s.host = host)) l.l 0 = idxF (fun s : PServer => decide (s.host = host)) (l.l.drop k) k) [(0, _), (1, _)] 0 (hs) ⟨by rfl, by rfl, trivial⟩ ⟨by rfl, trivial⟩ ?_ ?_
  ·
    simp
  clear hs; rintro k w hJ hs
  simp only [List.nil_append] at hs
  refine WC.seq' ?_
  refine WC.seq ?_
  refine WL.p (by rfl) (Yl.move (by rfl)) ?_
  refine WL.p (by rfl) (Yl.move (by rfl)) ?_
  refine WL.p (by rfl) (Yl.len_sl slu33 (by rfl)) ?_
  refine WL.p (by rfl) (Yl.lss (by rfl) (by rfl)) ?_
  refine WL.next ?_
  refine WC.condS (by rfl) (fun h1 => ?_) (fun h1 => ?_)
  ·
    replace h1 := of_decide_eq_true h1
    obtain ⟨d, hd⟩ := exists_get (l := l.l) (k := k) (by omega)
    rw [drop_cons hd] at hJ
    refine WC.skipn ?_
    refine WC.seq' ?_
    refine WC.block ?_
    refine WC.seq ?_
    refine WL.p (by rfl) (Yl.move (by rfl)) ?_
    refine WL.p (by rfl) (Yl.move (by rfl)) ?_
    refine WL.p (by rfl) (Yl.indexAddr slt33 (by rfl) (by rfl) (Ph.old h_l hs) (by rfl) (hd)) ?_
    refine WL.p (by rfl) (Yl.fieldAddr fa185_0 (by rfl)) ?_
    refine WL.p (by rfl) (Yl.loadC sca9 (by rfl) (Sl.Ok.at_ (Ph.old h_l hs) (by assumption)).2 (by rfl)) ?_
    refine WL.p (by rfl) (Yl.move (by rfl)) ?_
    refine WL.p (by rfl) (Yl.eqs (by rfl) (by rfl)) ?_
    refine WL.next ?_
    refine WC.condS (by rfl) (fun h2 => ?_) (fun h2 => ?_)
    ·
      replace h2 := of_decide_eq_true h2
      refine WC.seq ?_
      refine WL.p (by rfl) (Yl.move (by rfl)) ?_
      refine WL.p (by rfl) (Yl.assign (by rfl)) ?_
      refine WL.next ?_
      refine WC.ret ?_
      refine At.blockret ?_
      refine At.thenret ?_
      refine At.thenret ?_
      refine At.blockret ?_
      refine At.thenret ?_
      refine fin1' rfl (by rfl) ?_
      refine RetP.mk hs ?_
      rw [hJ]; simp_all [idxF]
    ·
      replace h2 := of_decide_eq_false h2
      refine WC.skip ?_
      refine At.blocknormal ?_
      refine At.then_ ?_
      refine WC.region ?_
      refine WL.p (by rfl) (Yl.move (by rfl)) ?_
      refine WL.p (by rfl) (Yl.add (by rfl) (by rfl) (by omega)) ?_
      refine WL.p (by rfl) (Yl.assign (by rfl)) ?_
      refine WL.nil ?_
      refine At.roundC (k + 1) (hs.only (by repeat (first | exact Sel.nil | (apply Sel.cons; (repeat (first | exact Ext.here | apply Ext.there)))))) ⟨by rfl, by rfl, trivial⟩ ⟨by rfl, trivial⟩ ?_ ?_
      ·
        omega
      ·
        rw [hJ]; simp_all [idxF]
  ·
    replace h1 := of_decide_eq_false h1
    rw [drop_out (l := l.l) (by omega)] at hJ
    refine WC.exit ?_
    refine At.thenexit ?_
    refine At.thenexit ?_
    refine At.blockexit ?_
    refine At.then_ ?_
    refine WC.seq ?_
    refine WL.p (by rfl) (Yl.assign (by rfl)) ?_
    refine WL.next ?_
    refine WC.ret ?_
    refine fin1' rfl (by rfl) ?_
    refine RetP.mk hs ?_
    rw [hJ]; simp_all [idxF]

theorem c_spec_l1In (x : Int) (least : Int) (most : Int) (w : World)   : Calls Tryz.prog 87 [I x, I least, I most].toArray w (RetP w (Bo (inR x least most))) := by
  refine enterN 15 Tryz.func87 rfl rfl rfl ?_
  have hs := Sat.start w
  refine WC.seq ?_
  refine WL.p (by rfl) (Yl.assign (by rfl)) ?_
  refine WL.next ?_
  refine WC.seq ?_
  refine WL.p (by rfl) (Yl.move (by rfl)) ?_
  refine WL.p (by rfl) (Yl.move (by rfl)) ?_
  refine WL.p (by rfl) (Yl.geq (by rfl) (by rfl)) ?_
  refine WL.p (by rfl) (Yl.move (by rfl)) ?_
  refine WL.split (d := 10) (by rfl) (fun h1 => ?_) (fun h1 => ?_)
  ·
    replace h1 := of_decide_eq_true h1
    refine WL.run (d := 10) (by rfl) (by rfl) ?_
    refine WL.p (by rfl) (Yl.move (by rfl)) ?_
    refine WL.run (d := 10) (by rfl) (by rfl) ?_
    refine WL.p (by rfl) (Yl.move (by rfl)) ?_
    refine WL.run (d := 10) (by rfl) (by rfl) ?_
    refine WL.p (by rfl) (Yl.leq (by rfl) (by rfl)) ?_
    refine WL.p (by rfl) (Yl.pickT (by rfl) (by rfl)) ?_
    refine WL.p (by rfl) (Yl.assign (by rfl)) ?_
    refine WL.next ?_
    refine WC.ret ?_
    refine fin1' rfl (by rfl) ?_
    refine RetP.mk hs ?_
    simp [inR, h1]
  ·
    replace h1 := of_decide_eq_false h1
    refine WL.skip (d := 10) (by rfl) (by rfl) (by rfl) (by rfl) ?_
    refine WL.skip (d := 10) (by rfl) (by rfl) (by rfl) (by rfl) ?_
    refine WL.skip (d := 10) (by rfl) (by rfl) (by rfl) (by rfl) ?_
    refine WL.p (by rfl) (Yl.pickF (by rfl) (by rfl)) ?_
    refine WL.p (by rfl) (Yl.assign (by rfl)) ?_
    refine WL.next ?_
    refine WC.ret ?_
    refine fin1' rfl (by rfl) ?_
    refine RetP.mk hs ?_
    rw [inR_false.2 (by omega)]

theorem c_spec_l5Split (s : Str) (b : UInt8) (w : World)  (hb : s.length ≤ 2097152) : Calls Tryz.prog 192 [S s, U8 b].toArray w (Ret w (fun v w' => ∃ x : Sl Str, v = x.v ∧ x.l = splitC b s ∧ Fresh w x w')) := by
  refine enterN 36 Tryz.func192 rfl rfl rfl ?_
  have hs := Sat.start w
  refine WC.seq ?_
  refine WL.p (by rfl) (Yl.assign (by rfl)) ?_
  refine WL.next ?_
  refine WC.seq ?_
  refine WL.r (by rfl) (Yr.buildSlice hs sll53 (by rfl) (by rfl) (by rfl) (by repeat (first | exact Fill.nil | (apply Fill.cons; rfl; rfl; rfl; repeat (first | (apply SetAt.here; repeat (first | exact Over.nil | apply Over.cons)) | apply SetAt.there)))) (by rfl)) ?_
  clear hs; rintro _ w ⟨b1, rfl, hb, hs⟩; clear hb
  refine WL.p (by rfl) (Yl.assign (by rfl)) ?_
  refine WL.next ?_
  refine WC.seq ?_
  refine WL.p (by rfl) (Yl.assign (by rfl)) ?_
  refine WL.next ?_
  refine WC.seq' ?_
  refine WC.seq ?_
  refine WL.p (by rfl) (Yl.assign (by rfl)) ?_
  refine WL.next ?_
  refine WC.block ?_
  replace hs := Sat.boxow (l := ([] : List Str)) hs rfl rfl (by simp) (ownL_mk_flat (by simp))
  refine WC.loopC (ι := Nat × Nat × Sl Str × List Nat) (fun ⟨k, f, q, F⟩ => s.length + 1 - k) (fun ⟨k, f, q, F⟩ => [(7, I (k : Int)), (6, I (f : Int)), (5, q.v)]) (fun ⟨k, f, q, F⟩ => [ow q F]) (fun ⟨k, f, q, F⟩ => (k ≤ s.length ∧ f ≤ k ∧ splitC b s = q.l ++ preH ((s.drop f).take (k - f)) (splitC b (s.drop k))) ∨ (k = s.length + 1 ∧ splitC b s = q.l)) [(0, _), (1, _), (4, _), (8, _)] (0, 0, ⟨[], some ⟨b1, 0, none⟩, 0⟩, [b1]) (hs.sel (D := [ow (⟨[], some ⟨b1, 0, none⟩, 0⟩ : Sl Str) [b1]]) (by repeat (first | exact Sel.nil | (apply Sel.cons; (repeat (first | exact Ext.here | apply Ext.there)))))) ⟨by rfl, by rfl, by rfl, by rfl, trivial⟩ ⟨by rfl, by rfl, by rfl, trivial⟩ ?_ ?_
  ·
    exact .inl ⟨Nat.zero_le _, Nat.le_refl _, by simp [preH_nil]⟩
  clear hs; rintro ⟨k, f, q, F⟩ w hJ hs
  simp only [List.cons_append, List.nil_append] at hs
  refine WC.seq' ?_
  refine WC.seq ?_
  refine WL.p (by rfl) (Yl.move (by rfl)) ?_
  refine WL.p (by rfl) (Yl.move (by rfl)) ?_
  refine WL.p (by rfl) (Yl.len_str str9 (by rfl)) ?_
  refine WL.p (by rfl) (Yl.leq (by rfl) (by rfl)) ?_
  refine WL.next ?_
  refine WC.condS (by rfl) (fun h1 => ?_) (fun h1 => ?_)
  ·
    replace h1 := of_decide_eq_true h1
    obtain ⟨hJ1, hJ2, hJ3⟩ : k ≤ s.length ∧ f ≤ k ∧ splitC b s = q.l ++ preH ((s.drop f).take (k - f)) (splitC b (s.drop k)) := by
      rcases hJ with h | h
      · exact h
      · omega
    have hlq : q.l.length ≤ s.length + 1 := by
      have e1 := congrArg List.length hJ3
      have e2 := splitC_len b s
      simp only [List.length_append] at e1
      omega
    refine WC.skipn ?_
    refine WC.seq' ?_
    refine WC.block ?_
    refine WC.seq ?_
    refine WL.p (by rfl) (Yl.move (by rfl)) ?_
    refine WL.p (by rfl) (Yl.move (by rfl)) ?_
    refine WL.p (by rfl) (Yl.len_str str9 (by rfl)) ?_
    refine WL.p (by rfl) (Yl.eqi (by rfl) (by rfl)) ?_
    refine WL.p (by rfl) (Yl.move (by rfl)) ?_
    refine WL.split (d := 19) (by rfl) (fun h2 => ?_) (fun h2 => ?_)
    ·
      replace h2 := of_decide_eq_true h2
      refine WL.skip (d := 19) (by rfl) (by rfl) (by rfl) (by rfl) ?_
      refine WL.skip (d := 19) (by rfl) (by rfl) (by rfl) (by rfl) ?_
      refine WL.skip (d := 19) (by rfl) (by rfl) (by rfl) (by rfl) ?_
      refine WL.skip (d := 19) (by rfl) (by rfl) (by rfl) (by rfl) ?_
      refine WL.skip (d := 19) (by rfl) (by rfl) (by rfl) (by rfl) ?_
      refine WL.p (by rfl) (Yl.pickT (by rfl) (by rfl)) ?_
      refine WL.next ?_
      refine WC.condT (by rfl) ?_
      refine WC.seq ?_
      refine WL.p (by rfl) (Yl.move (by rfl)) ?_
      refine WL.p (by rfl) (Yl.move (by rfl)) ?_
      refine WL.p (by rfl) (Yl.move (by rfl)) ?_
      refine WL.p (by rfl) (Yl.move (by rfl)) ?_
      refine WL.p (by rfl) (Yl.slice_str str9 (by rfl) (by exact ⟨_, by rfl⟩) (by exact ⟨_, by rfl⟩) (by omega) (by omega)) ?_
      refine WL.r (by rfl) (Yr.buildSlice hs sll53 (by rfl) (by rfl) (by rfl) (by repeat (first | exact Fill.nil | (apply Fill.cons; rfl; rfl; rfl; repeat (first | (apply SetAt.here; repeat (first | exact Over.nil | apply Over.cons)) | apply SetAt.there)))) (by rfl)) ?_
      clear hs; rintro _ w ⟨b2, rfl, hb, hs⟩; clear hb
      refine WL.r (by rfl) (Yr.append (s := q) (F := F) hs elt53 (by repeat (first | exact Sel.nil | (apply Sel.cons; (repeat (first | exact Ext.here | apply Ext.there))))) (by rfl) (by rfl) rfl (xs := [(s.drop f).take (k - f)]) (hs.box_cells (by repeat (first | exact List.mem_cons_self | apply List.mem_cons_of_mem))) (by intro x hx; obtain rfl := List.mem_singleton.1 hx; show WfS _; unfold WfS; simp only [List.length_take, List.length_drop]; omega) (by simp; unfold maxLen; omega) (by simp; omega)) ?_
      clear hs; rintro _ w ⟨s3, F3, rfl, hl3, hs⟩
      refine WL.p (by rfl) (Yl.assign (by rfl)) ?_
      refine WL.next ?_
      refine WC.region ?_
      refine WL.p (by rfl) (Yl.move (by rfl)) ?_
      refine WL.p (by rfl) (Yl.add (by rfl) (by rfl) (by omega)) ?_
      refine WL.p (by rfl) (Yl.assign (by rfl)) ?_
      refine WL.nil ?_
      refine At.blocknormal ?_
      refine At.then_ ?_
      refine WC.region ?_
      refine WL.p (by rfl) (Yl.move (by rfl)) ?_
      refine WL.p (by rfl) (Yl.add (by rfl) (by rfl) (by omega)) ?_
      refine WL.p (by rfl) (Yl.assign (by rfl)) ?_
      refine WL.nil ?_
      refine At.roundC (k + 1, k + 1, s3, F3) (hs.only (by repeat (first | exact Sel.nil | (apply Sel.cons; (repeat (first | exact Ext.here | apply Ext.there)))))) ⟨by rfl, by rfl, by rfl, by rfl, trivial⟩ ⟨by rfl, by rfl, by rfl, trivial⟩ ?_ ?_
      ·
        show s.length + 1 - (k + 1) < s.length + 1 - k
        omega
      ·
        refine .inr ⟨by omega, ?_⟩
        rw [hl3, hJ3]
        obtain rfl : k = s.length := by omega
        rw [List.drop_length, preH_end]
    ·
      replace h2 := of_decide_eq_false h2
      refine WL.run (d := 19) (by rfl) (by rfl) ?_
      refine WL.p (by rfl) (Yl.move (by rfl)) ?_
      refine WL.run (d := 19) (by rfl) (by rfl) ?_
      refine WL.p (by rfl) (Yl.move (by rfl)) ?_
      refine WL.run (d := 19) (by rfl) (by rfl) ?_
      refine WL.p (by rfl) (Yl.index str9 (by rfl) (by rfl) (by rfl) (by first | assumption | exact List.getElem?_eq_getElem (by omega))) ?_
      refine WL.run (d := 19) (by rfl) (by rfl) ?_
      refine WL.p (by rfl) (Yl.move (by rfl)) ?_
      refine WL.run (d := 19) (by rfl) (by rfl) ?_
      refine WL.p (by rfl) (Yl.eqi (by rfl) (by rfl)) ?_
      refine WL.p (by rfl) (Yl.pickF (by rfl) (by rfl)) ?_
      refine WL.next ?_
      refine WC.condS (by rfl) (fun h3 => ?_) (fun h3 => ?_)
      ·
        replace h3 := of_decide_eq_true h3
        refine WC.seq ?_
        refine WL.p (by rfl) (Yl.move (by rfl)) ?_
        refine WL.p (by rfl) (Yl.move (by rfl)) ?_
        refine WL.p (by rfl) (Yl.move (by rfl)) ?_
        refine WL.p (by rfl) (Yl.move (by rfl)) ?_
        refine WL.p (by rfl) (Yl.slice_str str9 (by rfl) (by exact ⟨_, by rfl⟩) (by exact ⟨_, by rfl⟩) (by omega) (by omega)) ?_
        refine WL.r (by rfl) (Yr.buildSlice hs sll53 (by rfl) (by rfl) (by rfl) (by repeat (first | exact Fill.nil | (apply Fill.cons; rfl; rfl; rfl; repeat (first | (apply SetAt.here; repeat (first | exact Over.nil | apply Over.cons)) | apply SetAt.there)))) (by rfl)) ?_
        clear hs; rintro _ w ⟨b4, rfl, hb, hs⟩; clear hb
        refine WL.r (by rfl) (Yr.append (s := q) (F := F) hs elt53 (by repeat (first | exact Sel.nil | (apply Sel.cons; (repeat (first | exact Ext.here | apply Ext.there))))) (by rfl) (by rfl) rfl (xs := [(s.drop f).take (k - f)]) (hs.box_cells (by repeat (first | exact List.mem_cons_self | apply List.mem_cons_of_mem))) (by intro x hx; obtain rfl := List.mem_singleton.1 hx; show WfS _; unfold WfS; simp only [List.length_take, List.length_drop]; omega) (by simp; unfold maxLen; omega) (by simp; omega)) ?_
        clear hs; rintro _ w ⟨s5, F5, rfl, hl5, hs⟩
        refine WL.p (by rfl) (Yl.assign (by rfl)) ?_
        refine WL.next ?_
        refine WC.region ?_
        refine WL.p (by rfl) (Yl.move (by rfl)) ?_
        refine WL.p (by rfl) (Yl.add (by rfl) (by rfl) (by omega)) ?_
        refine WL.p (by rfl) (Yl.assign (by rfl)) ?_
        refine WL.nil ?_
        refine At.blocknormal ?_
        refine At.then_ ?_
        refine WC.region ?_
        refine WL.p (by rfl) (Yl.move (by rfl)) ?_
        refine WL.p (by rfl) (Yl.add (by rfl) (by rfl) (by omega)) ?_
        refine WL.p (by rfl) (Yl.assign (by rfl)) ?_
        refine WL.nil ?_
        refine At.roundC (k + 1, k + 1, s5, F5) (hs.only (by repeat (first | exact Sel.nil | (apply Sel.cons; (repeat (first | exact Ext.here | apply Ext.there)))))) ⟨by rfl, by rfl, by rfl, by rfl, trivial⟩ ⟨by rfl, by rfl, by rfl, trivial⟩ ?_ ?_
        ·
          show s.length + 1 - (k + 1) < s.length + 1 - k
          omega
        ·
          have hc := List.drop_eq_getElem_cons (l := s) (i := k) (by omega)
          have hcb : s[k] = b := by apply UInt8.toNat_inj.1; omega
          refine .inl ⟨by omega, Nat.le_refl _, ?_⟩
          rw [hl5, hJ3, hc, hcb, preH_cut, Nat.sub_self, List.take_zero, preH_nil]; simp
      ·
        replace h3 := of_decide_eq_false h3
        refine WC.skip ?_
        refine At.blocknormal ?_
        refine At.then_ ?_
        refine WC.region ?_
        refine WL.p (by rfl) (Yl.move (by rfl)) ?_
        refine WL.p (by rfl) (Yl.add (by rfl) (by rfl) (by omega)) ?_
        refine WL.p (by rfl) (Yl.assign (by rfl)) ?_
        refine WL.nil ?_
        refine At.roundC (k + 1, f, q, F) (hs.only (by repeat (first | exact Sel.nil | (apply Sel.cons; (repeat (first | exact Ext.here | apply Ext.there)))))) ⟨by rfl, by rfl, by rfl, by rfl, trivial⟩ ⟨by rfl, by rfl, by rfl, trivial⟩ ?_ ?_
        ·
          show s.length + 1 - (k + 1) < s.length + 1 - k
          omega
        ·
          have hc := List.drop_eq_getElem_cons (l := s) (i := k) (by omega)
          have hcb : s[k] ≠ b := by intro h; apply h3; rw [h]
          refine .inl ⟨by omega, by omega, ?_⟩
          have e : (s.drop f).take (k + 1 - f) = (s.drop f).take (k - f) ++ [s[k]] := by
            rw [show k + 1 - f = (k - f) + 1 from by omega, List.take_add_one, List.getElem?_drop, show f + (k - f) = k from by omega, List.getElem?_eq_getElem (by omega)]; rfl
          rw [e, hJ3, hc, preH_step hcb]
  ·
    replace h1 := of_decide_eq_false h1
    refine WC.exit ?_
    refine At.thenexit ?_
    refine At.thenexit ?_
    refine At.blockexit ?_
    refine At.then_ ?_
    refine WC.seq ?_
    refine WL.p (by rfl) (Yl.move (by rfl)) ?_
    refine WL.p (by rfl) (Yl.assign (by rfl)) ?_
    refine WL.next ?_
    refine WC.ret ?_
    refine fin1' rfl (by rfl) ?_
    refine Ret.mk hs ?_
    rcases hJ with h | ⟨_, h⟩
    · omega
    · exact ⟨q, rfl, h.symm, hs.fresh (by repeat (first | exact List.mem_cons_self | apply List.mem_cons_of_mem))⟩

theorem c_spec_IsValue (s : Str) (w : World) (h_s : Ph.ok w s)  : Calls Tryz.prog 190 [S s].toArray w (RetP w (Bo (isValue s))) := by
  have hw : s.length ≤ 9223372036854775807 := h_s
  refine enterN 41 Tryz.func190 rfl rfl rfl ?_
  have hs := Sat.start w
  refine WC.seq ?_
  refine WL.p (by rfl) (Yl.assign (by rfl)) ?_
  refine WL.next ?_
  refine WC.seq' ?_
  refine WC.seq ?_
  refine WL.p (by rfl) (Yl.assign (by rfl)) ?_
  refine WL.next ?_
  refine WC.block ?_
  refine WC.loopC (ι := Nat) (fun k => s.length - k) (fun k => [(3, I (k : Int))]) (fun _ => []) (fun k => s.all valueByte = (s.drop k).all valueByte) [(0, _)] 0 (hs) ⟨by rfl, trivial⟩ ⟨by rfl, trivial⟩ ?_ ?_
  ·
    simp
  clear hs; rintro k w hJ hs
  simp only [List.nil_append] at hs
  refine WC.seq' ?_
  refine WC.seq ?_
  refine WL.p (by rfl) (Yl.move (by rfl)) ?_
  refine WL.p (by rfl) (Yl.move (by rfl)) ?_
  refine WL.p (by rfl) (Yl.len_str str9 (by rfl)) ?_
  refine WL.p (by rfl) (Yl.lss (by rfl) (by rfl)) ?_
  refine WL.next ?_
  refine WC.condS (by rfl) (fun h1 => ?_) (fun h1 => ?_)
  ·
    replace h1 := of_decide_eq_true h1
    obtain ⟨d, hd⟩ := exists_get (l := s) (k := k) (by omega)
    rw [drop_cons hd] at hJ
    refine WC.skipn ?_
    refine WC.seq' ?_
    refine WC.block ?_
    refine WC.seq ?_
    refine WL.p (by rfl) (Yl.move (by rfl)) ?_
    refine WL.p (by rfl) (Yl.move (by rfl)) ?_
    refine WL.p (by rfl) (Yl.index str9 (by rfl) (by rfl) (by rfl) (by first | assumption | exact List.getElem?_eq_getElem (by omega))) ?_
    refine WL.p (by rfl) (Yl.lss (by rfl) (by rfl)) ?_
    refine WL.p (by rfl) (Yl.move (by rfl)) ?_
    refine WL.split (d := 14) (by rfl) (fun h2 => ?_) (fun h2 => ?_)
    ·
      replace h2 := of_decide_eq_true h2
      refine WL.skip (d := 14) (by rfl) (by rfl) (by rfl) (by rfl) ?_
      refine WL.skip (d := 14) (by rfl) (by rfl) (by rfl) (by rfl) ?_
      refine WL.skip (d := 14) (by rfl) (by rfl) (by rfl) (by rfl) ?_
      refine WL.skip (d := 14) (by rfl) (by rfl) (by rfl) (by rfl) ?_
      refine WL.p (by rfl) (Yl.pickT (by rfl) (by rfl)) ?_
      refine WL.p (by rfl) (Yl.move (by rfl)) ?_
      refine WL.run (d := 20) (by rfl) (by rfl) ?_
      refine WL.p (by rfl) (Yl.move (by rfl)) ?_
      refine WL.run (d := 20) (by rfl) (by rfl) ?_
      refine WL.p (by rfl) (Yl.move (by rfl)) ?_
      refine WL.run (d := 20) (by rfl) (by rfl) ?_
      refine WL.p (by rfl) (Yl.index str9 (by rfl) (by rfl) (by rfl) (by first | assumption | exact List.getElem?_eq_getElem (by omega))) ?_
      refine WL.run (d := 20) (by rfl) (by rfl) ?_
      refine WL.p (by rfl) (Yl.lss (by rfl) (by rfl)) ?_
      refine WL.run (d := 20) (by rfl) (by rfl) ?_
      refine WL.p (by rfl) (Yl.move (by rfl)) ?_
      refine WL.split (d := 25) (by rfl) (fun h3 => ?_) (fun h3 => ?_)
      ·
        replace h3 := of_decide_eq_true h3
        refine WL.skip (d := 25) (by rfl) (by rfl) (by rfl) (by rfl) ?_
        refine WL.skip (d := 25) (by rfl) (by rfl) (by rfl) (by rfl) ?_
        refine WL.skip (d := 25) (by rfl) (by rfl) (by rfl) (by rfl) ?_
        refine WL.skip (d := 25) (by rfl) (by rfl) (by rfl) (by rfl) ?_
        refine WL.run (d := 20) (by rfl) (by rfl) ?_
        refine WL.p (by rfl) (Yl.pickT (by rfl) (by rfl)) ?_
        refine WL.p (by rfl) (Yl.pickT (by rfl) (by rfl)) ?_
        refine WL.p (by rfl) (Yl.move (by rfl)) ?_
        refine WL.run (d := 32) (by rfl) (by rfl) ?_
        refine WL.p (by rfl) (Yl.move (by rfl)) ?_
        refine WL.run (d := 32) (by rfl) (by rfl) ?_
        refine WL.p (by rfl) (Yl.move (by rfl)) ?_
        refine WL.run (d := 32) (by rfl) (by rfl) ?_
        refine WL.p (by rfl) (Yl.index str9 (by rfl) (by rfl) (by rfl) (by first | assumption | exact List.getElem?_eq_getElem (by omega))) ?_
        refine WL.run (d := 32) (by rfl) (by rfl) ?_
        refine WL.p (by rfl) (Yl.nei (by rfl) (by rfl)) ?_
        refine WL.p (by rfl) (Yl.pickT (by rfl) (by rfl)) ?_
        refine WL.next ?_
        refine WC.condS (by rfl) (fun h4 => ?_) (fun h4 => ?_)
        ·
          replace h4 := not_eq_true h4
          replace h4 := of_decide_eq_false h4
          refine WC.seq ?_
          refine WL.p (by rfl) (Yl.assign (by rfl)) ?_
          refine WL.next ?_
          refine WC.ret ?_
          refine At.blockret ?_
          refine At.thenret ?_
          refine At.thenret ?_
          refine At.blockret ?_
          refine At.thenret ?_
          refine fin1' rfl (by rfl) ?_
          refine RetP.mk hs ?_
          first
            | (simp [isValue, hJ, valueByte, lower, digit]; done)
            | (simp [isValue, hJ, valueByte, lower, digit]; omega)
            | simp_all [isValue, hJ, valueByte, lower, digit]
        ·
          replace h4 := not_eq_false h4
          replace h4 := of_decide_eq_true h4
          refine WC.skip ?_
          refine At.blocknormal ?_
          refine At.then_ ?_
          refine WC.region ?_
          refine WL.p (by rfl) (Yl.move (by rfl)) ?_
          refine WL.p (by rfl) (Yl.add (by rfl) (by rfl) (by omega)) ?_
          refine WL.p (by rfl) (Yl.assign (by rfl)) ?_
          refine WL.nil ?_
          refine At.roundC (k + 1) (hs.only (by repeat (first | exact Sel.nil | (apply Sel.cons; (repeat (first | exact Ext.here | apply Ext.there)))))) ⟨by rfl, trivial⟩ ⟨by rfl, trivial⟩ ?_ ?_
          ·
            omega
          ·
            rw [hJ]; simp [valueByte, lower, digit]; omega
      ·
        replace h3 := of_decide_eq_false h3
        refine WL.run (d := 25) (by rfl) (by rfl) ?_
        refine WL.p (by rfl) (Yl.move (by rfl)) ?_
        refine WL.run (d := 25) (by rfl) (by rfl) ?_
        refine WL.p (by rfl) (Yl.move (by rfl)) ?_
        refine WL.run (d := 25) (by rfl) (by rfl) ?_
        refine WL.p (by rfl) (Yl.index str9 (by rfl) (by rfl) (by rfl) (by first | assumption | exact List.getElem?_eq_getElem (by omega))) ?_
        refine WL.run (d := 25) (by rfl) (by rfl) ?_
        refine WL.p (by rfl) (Yl.gtr (by rfl) (by rfl)) ?_
        refine WL.run (d := 20) (by rfl) (by rfl) ?_
        refine WL.p (by rfl) (Yl.pickF (by rfl) (by rfl)) ?_
        refine WL.p (by rfl) (Yl.pickT (by rfl) (by rfl)) ?_
        refine WL.p (by rfl) (Yl.move (by rfl)) ?_
        refine WL.split (d := 32) (by rfl) (fun h4 => ?_) (fun h4 => ?_)
        ·
          replace h4 := of_decide_eq_true h4
          refine WL.run (d := 32) (by rfl) (by rfl) ?_
          refine WL.p (by rfl) (Yl.move (by rfl)) ?_
          refine WL.run (d := 32) (by rfl) (by rfl) ?_
          refine WL.p (by rfl) (Yl.move (by rfl)) ?_
          refine WL.run (d := 32) (by rfl) (by rfl) ?_
          refine WL.p (by rfl) (Yl.index str9 (by rfl) (by rfl) (by rfl) (by first | assumption | exact List.getElem?_eq_getElem (by omega))) ?_
          refine WL.run (d := 32) (by rfl) (by rfl) ?_
          refine WL.p (by rfl) (Yl.nei (by rfl) (by rfl)) ?_
          refine WL.p (by rfl) (Yl.pickT (by rfl) (by rfl)) ?_
          refine WL.next ?_
          refine WC.condS (by rfl) (fun h5 => ?_) (fun h5 => ?_)
          ·
            replace h5 := not_eq_true h5
            replace h5 := of_decide_eq_false h5
            refine WC.seq ?_
            refine WL.p (by rfl) (Yl.assign (by rfl)) ?_
            refine WL.next ?_
            refine WC.ret ?_
            refine At.blockret ?_
            refine At.thenret ?_
            refine At.thenret ?_
            refine At.blockret ?_
            refine At.thenret ?_
            refine fin1' rfl (by rfl) ?_
            refine RetP.mk hs ?_
            first
              | (simp [isValue, hJ, valueByte, lower, digit]; done)
              | (simp [isValue, hJ, valueByte, lower, digit]; omega)
              | simp_all [isValue, hJ, valueByte, lower, digit]
          ·
            replace h5 := not_eq_false h5
            replace h5 := of_decide_eq_true h5
            refine WC.skip ?_
            refine At.blocknormal ?_
            refine At.then_ ?_
            refine WC.region ?_
            refine WL.p (by rfl) (Yl.move (by rfl)) ?_
            refine WL.p (by rfl) (Yl.add (by rfl) (by rfl) (by omega)) ?_
            refine WL.p (by rfl) (Yl.assign (by rfl)) ?_
            refine WL.nil ?_
            refine At.roundC (k + 1) (hs.only (by repeat (first | exact Sel.nil | (apply Sel.cons; (repeat (first | exact Ext.here | apply Ext.there)))))) ⟨by rfl, trivial⟩ ⟨by rfl, trivial⟩ ?_ ?_
            ·
              omega
            ·
              rw [hJ]; simp [valueByte, lower, digit]; omega
        ·
          replace h4 := of_decide_eq_false h4
          refine WL.skip (d := 32) (by rfl) (by rfl) (by rfl) (by rfl) ?_
          refine WL.skip (d := 32) (by rfl) (by rfl) (by rfl) (by rfl) ?_
          refine WL.skip (d := 32) (by rfl) (by rfl) (by rfl) (by rfl) ?_
          refine WL.skip (d := 32) (by rfl) (by rfl) (by rfl) (by rfl) ?_
          refine WL.p (by rfl) (Yl.pickF (by rfl) (by rfl)) ?_
          refine WL.next ?_
          refine WC.condF (by rfl) ?_
          refine WC.skip ?_
          refine At.blocknormal ?_
          refine At.then_ ?_
          refine WC.region ?_
          refine WL.p (by rfl) (Yl.move (by rfl)) ?_
          refine WL.p (by rfl) (Yl.add (by rfl) (by rfl) (by omega)) ?_
          refine WL.p (by rfl) (Yl.assign (by rfl)) ?_
          refine WL.nil ?_
          refine At.roundC (k + 1) (hs.only (by repeat (first | exact Sel.nil | (apply Sel.cons; (repeat (first | exact Ext.here | apply Ext.there)))))) ⟨by rfl, trivial⟩ ⟨by rfl, trivial⟩ ?_ ?_
          ·
            omega
          ·
            rw [hJ]; simp [valueByte, lower, digit]; omega
    ·
      replace h2 := of_decide_eq_false h2
      refine WL.run (d := 14) (by rfl) (by rfl) ?_
      refine WL.p (by rfl) (Yl.move (by rfl)) ?_
      refine WL.run (d := 14) (by rfl) (by rfl) ?_
      refine WL.p (by rfl) (Yl.move (by rfl)) ?_
      refine WL.run (d := 14) (by rfl) (by rfl) ?_
      refine WL.p (by rfl) (Yl.index str9 (by rfl) (by rfl) (by rfl) (by first | assumption | exact List.getElem?_eq_getElem (by omega))) ?_
      refine WL.run (d := 14) (by rfl) (by rfl) ?_
      refine WL.p (by rfl) (Yl.gtr (by rfl) (by rfl)) ?_
      refine WL.p (by rfl) (Yl.pickF (by rfl) (by rfl)) ?_
      refine WL.p (by rfl) (Yl.move (by rfl)) ?_
      refine WL.split (d := 20) (by rfl) (fun h3 => ?_) (fun h3 => ?_)
      ·
        replace h3 := of_decide_eq_true h3
        refine WL.run (d := 20) (by rfl) (by rfl) ?_
        refine WL.p (by rfl) (Yl.move (by rfl)) ?_
        refine WL.run (d := 20) (by rfl) (by rfl) ?_
        refine WL.p (by rfl) (Yl.move (by rfl)) ?_
        refine WL.run (d := 20) (by rfl) (by rfl) ?_
        refine WL.p (by rfl) (Yl.index str9 (by rfl) (by rfl) (by rfl) (by first | assumption | exact List.getElem?_eq_getElem (by omega))) ?_
        refine WL.run (d := 20) (by rfl) (by rfl) ?_
        refine WL.p (by rfl) (Yl.lss (by rfl) (by rfl)) ?_
        refine WL.run (d := 20) (by rfl) (by rfl) ?_
        refine WL.p (by rfl) (Yl.move (by rfl)) ?_
        refine WL.split (d := 25) (by rfl) (fun h4 => ?_) (fun h4 => ?_)
        ·
          replace h4 := of_decide_eq_true h4
          refine WL.skip (d := 25) (by rfl) (by rfl) (by rfl) (by rfl) ?_
          refine WL.skip (d := 25) (by rfl) (by rfl) (by rfl) (by rfl) ?_
          refine WL.skip (d := 25) (by rfl) (by rfl) (by rfl) (by rfl) ?_
          refine WL.skip (d := 25) (by rfl) (by rfl) (by rfl) (by rfl) ?_
          refine WL.run (d := 20) (by rfl) (by rfl) ?_
          refine WL.p (by rfl) (Yl.pickT (by rfl) (by rfl)) ?_
          refine WL.p (by rfl) (Yl.pickT (by rfl) (by rfl)) ?_
          refine WL.p (by rfl) (Yl.move (by rfl)) ?_
          refine WL.run (d := 32) (by rfl) (by rfl) ?_
          refine WL.p (by rfl) (Yl.move (by rfl)) ?_
          refine WL.run (d := 32) (by rfl) (by rfl) ?_
          refine WL.p (by rfl) (Yl.move (by rfl)) ?_
          refine WL.run (d := 32) (by rfl) (by rfl) ?_
          refine WL.p (by rfl) (Yl.index str9 (by rfl) (by rfl) (by rfl) (by first | assumption | exact List.getElem?_eq_getElem (by omega))) ?_
          refine WL.run (d := 32) (by rfl) (by rfl) ?_
          refine WL.p (by rfl) (Yl.nei (by rfl) (by rfl)) ?_
          refine WL.p (by rfl) (Yl.pickT (by rfl) (by rfl)) ?_
          refine WL.next ?_
          refine WC.condS (by rfl) (fun h5 => ?_) (fun h5 => ?_)
          ·
            replace h5 := not_eq_true h5
            replace h5 := of_decide_eq_false h5
            refine WC.seq ?_
            refine WL.p (by rfl) (Yl.assign (by rfl)) ?_
            refine WL.next ?_
            refine WC.ret ?_
            refine At.blockret ?_
            refine At.thenret ?_
            refine At.thenret ?_
            refine At.blockret ?_
            refine At.thenret ?_
            refine fin1' rfl (by rfl) ?_
            refine RetP.mk hs ?_
            first
              | (simp [isValue, hJ, valueByte, lower, digit]; done)
              | (simp [isValue, hJ, valueByte, lower, digit]; omega)
              | simp_all [isValue, hJ, valueByte, lower, digit]
          ·
            replace h5 := not_eq_false h5
            replace h5 := of_decide_eq_true h5
            refine WC.skip ?_
            refine At.blocknormal ?_
            refine At.then_ ?_
            refine WC.region ?_
            refine WL.p (by rfl) (Yl.move (by rfl)) ?_
            refine WL.p (by rfl) (Yl.add (by rfl) (by rfl) (by omega)) ?_
            refine WL.p (by rfl) (Yl.assign (by rfl)) ?_
            refine WL.nil ?_
            refine At.roundC (k + 1) (hs.only (by repeat (first | exact Sel.nil | (apply Sel.cons; (repeat (first | exact Ext.here | apply Ext.there)))))) ⟨by rfl, trivial⟩ ⟨by rfl, trivial⟩ ?_ ?_
            ·
              omega
            ·
              rw [hJ]; simp [valueByte, lower, digit]; omega
        ·
          replace h4 := of_decide_eq_false h4
          refine WL.run (d := 25) (by rfl) (by rfl) ?_
          refine WL.p (by rfl) (Yl.move (by rfl)) ?_
          refine WL.run (d := 25) (by rfl) (by rfl) ?_
          refine WL.p (by rfl) (Yl.move (by rfl)) ?_
          refine WL.run (d := 25) (by rfl) (by rfl) ?_
          refine WL.p (by rfl) (Yl.index str9 (by rfl) (by rfl) (by rfl) (by first | assumption | exact List.getElem?_eq_getElem (by omega))) ?_
          refine WL.run (d := 25) (by rfl) (by rfl) ?_
          refine WL.p (by rfl) (Yl.gtr (by rfl) (by rfl)) ?_
          refine WL.run (d := 20) (by rfl) (by rfl) ?_
          refine WL.p (by rfl) (Yl.pickF (by rfl) (by rfl)) ?_
          refine WL.p (by rfl) (Yl.pickT (by rfl) (by rfl)) ?_
          refine WL.p (by rfl) (Yl.move (by rfl)) ?_
          refine WL.split (d := 32) (by rfl) (fun h5 => ?_) (fun h5 => ?_)
          ·
            replace h5 := of_decide_eq_true h5
            refine WL.run (d := 32) (by rfl) (by rfl) ?_
            refine WL.p (by rfl) (Yl.move (by rfl)) ?_
            refine WL.run (d := 32) (by rfl) (by rfl) ?_
            refine WL.p (by rfl) (Yl.move (by rfl)) ?_
            refine WL.run (d := 32) (by rfl) (by rfl) ?_
            refine WL.p (by rfl) (Yl.index str9 (by rfl) (by rfl) (by rfl) (by first | assumption | exact List.getElem?_eq_getElem (by omega))) ?_
            refine WL.run (d := 32) (by rfl) (by rfl) ?_
            refine WL.p (by rfl) (Yl.nei (by rfl) (by rfl)) ?_
            refine WL.p (by rfl) (Yl.pickT (by rfl) (by rfl)) ?_
            refine WL.next ?_
            refine WC.condS (by rfl) (fun h6 => ?_) (fun h6 => ?_)
            ·
              replace h6 := not_eq_true h6
              replace h6 := of_decide_eq_false h6
              refine WC.seq ?_
              refine WL.p (by rfl) (Yl.assign (by rfl)) ?_
              refine WL.next ?_
              refine WC.ret ?_
              refine At.blockret ?_
              refine At.thenret ?_
              refine At.thenret ?_
              refine At.blockret ?_
              refine At.thenret ?_
              refine fin1' rfl (by rfl) ?_
              refine RetP.mk hs ?_
              first
                | (simp [isValue, hJ, valueByte, lower, digit]; done)
                | (simp [isValue, hJ, valueByte, lower, digit]; omega)
                | simp_all [isValue, hJ, valueByte, lower, digit]
            ·
              replace h6 := not_eq_false h6
              replace h6 := of_decide_eq_true h6
              refine WC.skip ?_
              refine At.blocknormal ?_
              refine At.then_ ?_
              refine WC.region ?_
              refine WL.p (by rfl) (Yl.move (by rfl)) ?_
              refine WL.p (by rfl) (Yl.add (by rfl) (by rfl) (by omega)) ?_
              refine WL.p (by rfl) (Yl.assign (by rfl)) ?_
              refine WL.nil ?_
              refine At.roundC (k + 1) (hs.only (by repeat (first | exact Sel.nil | (apply Sel.cons; (repeat (first | exact Ext.here | apply Ext.there)))))) ⟨by rfl, trivial⟩ ⟨by rfl, trivial⟩ ?_ ?_
              ·
                omega
              ·
                rw [hJ]; simp [valueByte, lower, digit]; omega
          ·
            replace h5 := of_decide_eq_false h5
            refine WL.skip (d := 32) (by rfl) (by rfl) (by rfl) (by rfl) ?_
            refine WL.skip (d := 32) (by rfl) (by rfl) (by rfl) (by rfl) ?_
            refine WL.skip (d := 32) (by rfl) (by rfl) (by rfl) (by rfl) ?_
            refine WL.skip (d := 32) (by rfl) (by rfl) (by rfl) (by rfl) ?_
            refine WL.p (by rfl) (Yl.pickF (by rfl) (by rfl)) ?_
            refine WL.next ?_
            refine WC.condF (by rfl) ?_
            refine WC.skip ?_
            refine At.blocknormal ?_
            refine At.then_ ?_
            refine WC.region ?_
            refine WL.p (by rfl) (Yl.move (by rfl)) ?_
            refine WL.p (by rfl) (Yl.add (by rfl) (by rfl) (by omega)) ?_
            refine WL.p (by rfl) (Yl.assign (by rfl)) ?_
            refine WL.nil ?_
            refine At.roundC (k + 1) (hs.only (by repeat (first | exact Sel.nil | (apply Sel.cons; (repeat (first | exact Ext.here | apply Ext.there)))))) ⟨by rfl, trivial⟩ ⟨by rfl, trivial⟩ ?_ ?_
            ·
              omega
            ·
              rw [hJ]; simp [valueByte, lower, digit]; omega
      ·
        replace h3 := of_decide_eq_false h3
        refine WL.skip (d := 20) (by rfl) (by rfl) (by rfl) (by rfl) ?_
        refine WL.skip (d := 20) (by rfl) (by rfl) (by rfl) (by rfl) ?_
        refine WL.skip (d := 20) (by rfl) (by rfl) (by rfl) (by rfl) ?_
        refine WL.skip (d := 20) (by rfl) (by rfl) (by rfl) (by rfl) ?_
        refine WL.skip (d := 20) (by rfl) (by rfl) (by rfl) (by rfl) ?_
        refine WL.skipU (d := 25) (by rfl) (by rfl) (by rfl) ?_
        refine WL.skipU (d := 25) (by rfl) (by rfl) (by rfl) ?_
        refine WL.skipU (d := 25) (by rfl) (by rfl) (by rfl) ?_
        refine WL.skipU (d := 25) (by rfl) (by rfl) (by rfl) ?_
        refine WL.skip (d := 20) (by rfl) (by rfl) (by rfl) (by rfl) ?_
        refine WL.p (by rfl) (Yl.pickF (by rfl) (by rfl)) ?_
        refine WL.p (by rfl) (Yl.move (by rfl)) ?_
        refine WL.skip (d := 32) (by rfl) (by rfl) (by rfl) (by rfl) ?_
        refine WL.skip (d := 32) (by rfl) (by rfl) (by rfl) (by rfl) ?_
        refine WL.skip (d := 32) (by rfl) (by rfl) (by rfl) (by rfl) ?_
        refine WL.skip (d := 32) (by rfl) (by rfl) (by rfl) (by rfl) ?_
        refine WL.p (by rfl) (Yl.pickF (by rfl) (by rfl)) ?_
        refine WL.next ?_
        refine WC.condF (by rfl) ?_
        refine WC.skip ?_
        refine At.blocknormal ?_
        refine At.then_ ?_
        refine WC.region ?_
        refine WL.p (by rfl) (Yl.move (by rfl)) ?_
        refine WL.p (by rfl) (Yl.add (by rfl) (by rfl) (by omega)) ?_
        refine WL.p (by rfl) (Yl.assign (by rfl)) ?_
        refine WL.nil ?_
        refine At.roundC (k + 1) (hs.only (by repeat (first | exact Sel.nil | (apply Sel.cons; (repeat (first | exact Ext.here | apply Ext.there)))))) ⟨by rfl, trivial⟩ ⟨by rfl, trivial⟩ ?_ ?_
        ·
          omega
        ·
          rw [hJ]; simp [valueByte, lower, digit]; omega
  ·
    replace h1 := of_decide_eq_false h1
    rw [drop_out (l := s) (by omega)] at hJ
    refine WC.exit ?_
    refine At.thenexit ?_
    refine At.thenexit ?_
    refine At.blockexit ?_
    refine At.then_ ?_
    refine WC.seq ?_
    refine WL.p (by rfl) (Yl.move (by rfl)) ?_
    refine WL.p (by rfl) (Yl.len_str str9 (by rfl)) ?_
    refine WL.callp hs (by rfl) (Yc.func (by rfl) fn87) (c_spec_l1In _ _ _ _) ?_
    clear hs; intro w hs
    refine WL.p (by rfl) (Yl.assign (by rfl)) ?_
    refine WL.next ?_
    refine WC.ret ?_
    refine fin1' rfl (by rfl) ?_
    refine RetP.mk hs ?_
    first
      | (simp [isValue, hJ, valueByte, lower, digit]; done)
      | (simp [isValue, hJ, valueByte, lower, digit]; omega)
      | simp_all [isValue, hJ, valueByte, lower, digit]

theorem c_spec_IsName (s : Str) (w : World) (h_s : Ph.ok w s)  : Calls Tryz.prog 106 [S s].toArray w (RetP w (Bo (isName s))) := by
  have hw : s.length ≤ 9223372036854775807 := h_s
  refine enterN 23 Tryz.func106 rfl rfl rfl ?_
  have hs := Sat.start w
  refine WC.seq ?_
  refine WL.p (by rfl) (Yl.assign (by rfl)) ?_
  refine WL.next ?_
  refine WC.seq' ?_
  refine WC.seq ?_
  refine WL.p (by rfl) (Yl.assign (by rfl)) ?_
  refine WL.next ?_
  refine WC.block ?_
  refine WC.loopC (ι := Nat) (fun k => s.length - k) (fun k => [(3, I (k : Int))]) (fun _ => []) (fun k => s.all lower = (s.drop k).all lower) [(0, _)] 0 (hs) ⟨by rfl, trivial⟩ ⟨by rfl, trivial⟩ ?_ ?_
  ·
    simp
  clear hs; rintro k w hJ hs
  simp only [List.nil_append] at hs
  refine WC.seq' ?_
  refine WC.seq ?_
  refine WL.p (by rfl) (Yl.move (by rfl)) ?_
  refine WL.p (by rfl) (Yl.move (by rfl)) ?_
  refine WL.p (by rfl) (Yl.len_str str9 (by rfl)) ?_
  refine WL.p (by rfl) (Yl.lss (by rfl) (by rfl)) ?_
  refine WL.next ?_
  refine WC.condS (by rfl) (fun h1 => ?_) (fun h1 => ?_)
  ·
    replace h1 := of_decide_eq_true h1
    obtain ⟨d, hd⟩ := exists_get (l := s) (k := k) (by omega)
    rw [drop_cons hd] at hJ
    refine WC.skipn ?_
    refine WC.seq' ?_
    refine WC.block ?_
    refine WC.seq ?_
    refine WL.p (by rfl) (Yl.move (by rfl)) ?_
    refine WL.p (by rfl) (Yl.move (by rfl)) ?_
    refine WL.p (by rfl) (Yl.index str9 (by rfl) (by rfl) (by rfl) (by first | assumption | exact List.getElem?_eq_getElem (by omega))) ?_
    refine WL.p (by rfl) (Yl.lss (by rfl) (by rfl)) ?_
    refine WL.p (by rfl) (Yl.move (by rfl)) ?_
    refine WL.split (d := 14) (by rfl) (fun h2 => ?_) (fun h2 => ?_)
    ·
      replace h2 := of_decide_eq_true h2
      refine WL.skip (d := 14) (by rfl) (by rfl) (by rfl) (by rfl) ?_
      refine WL.skip (d := 14) (by rfl) (by rfl) (by rfl) (by rfl) ?_
      refine WL.skip (d := 14) (by rfl) (by rfl) (by rfl) (by rfl) ?_
      refine WL.skip (d := 14) (by rfl) (by rfl) (by rfl) (by rfl) ?_
      refine WL.p (by rfl) (Yl.pickT (by rfl) (by rfl)) ?_
      refine WL.next ?_
      refine WC.condT (by rfl) ?_
      refine WC.seq ?_
      refine WL.p (by rfl) (Yl.assign (by rfl)) ?_
      refine WL.next ?_
      refine WC.ret ?_
      refine At.blockret ?_
      refine At.thenret ?_
      refine At.thenret ?_
      refine At.blockret ?_
      refine At.thenret ?_
      refine fin1' rfl (by rfl) ?_
      refine RetP.mk hs ?_
      first
        | (simp [isName, hJ, lower]; done)
        | (simp [isName, hJ, lower]; omega)
        | simp_all [isName, hJ, lower]
    ·
      replace h2 := of_decide_eq_false h2
      refine WL.run (d := 14) (by rfl) (by rfl) ?_
      refine WL.p (by rfl) (Yl.move (by rfl)) ?_
      refine WL.run (d := 14) (by rfl) (by rfl) ?_
      refine WL.p (by rfl) (Yl.move (by rfl)) ?_
      refine WL.run (d := 14) (by rfl) (by rfl) ?_
      refine WL.p (by rfl) (Yl.index str9 (by rfl) (by rfl) (by rfl) (by first | assumption | exact List.getElem?_eq_getElem (by omega))) ?_
      refine WL.run (d := 14) (by rfl) (by rfl) ?_
      refine WL.p (by rfl) (Yl.gtr (by rfl) (by rfl)) ?_
      refine WL.p (by rfl) (Yl.pickF (by rfl) (by rfl)) ?_
      refine WL.next ?_
      refine WC.condS (by rfl) (fun h3 => ?_) (fun h3 => ?_)
      ·
        replace h3 := of_decide_eq_true h3
        refine WC.seq ?_
        refine WL.p (by rfl) (Yl.assign (by rfl)) ?_
        refine WL.next ?_
        refine WC.ret ?_
        refine At.blockret ?_
        refine At.thenret ?_
        refine At.thenret ?_
        refine At.blockret ?_
        refine At.thenret ?_
        refine fin1' rfl (by rfl) ?_
        refine RetP.mk hs ?_
        first
          | (simp [isName, hJ, lower]; done)
          | (simp [isName, hJ, lower]; omega)
          | simp_all [isName, hJ, lower]
      ·
        replace h3 := of_decide_eq_false h3
        refine WC.skip ?_
        refine At.blocknormal ?_
        refine At.then_ ?_
        refine WC.region ?_
        refine WL.p (by rfl) (Yl.move (by rfl)) ?_
        refine WL.p (by rfl) (Yl.add (by rfl) (by rfl) (by omega)) ?_
        refine WL.p (by rfl) (Yl.assign (by rfl)) ?_
        refine WL.nil ?_
        refine At.roundC (k + 1) (hs.only (by repeat (first | exact Sel.nil | (apply Sel.cons; (repeat (first | exact Ext.here | apply Ext.there)))))) ⟨by rfl, trivial⟩ ⟨by rfl, trivial⟩ ?_ ?_
        ·
          omega
        ·
          rw [hJ]; simp [lower]; omega
  ·
    replace h1 := of_decide_eq_false h1
    rw [drop_out (l := s) (by omega)] at hJ
    refine WC.exit ?_
    refine At.thenexit ?_
    refine At.thenexit ?_
    refine At.blockexit ?_
    refine At.then_ ?_
    refine WC.seq ?_
    refine WL.p (by rfl) (Yl.move (by rfl)) ?_
    refine WL.p (by rfl) (Yl.len_str str9 (by rfl)) ?_
    refine WL.callp hs (by rfl) (Yc.func (by rfl) fn87) (c_spec_l1In _ _ _ _) ?_
    clear hs; intro w hs
    refine WL.p (by rfl) (Yl.assign (by rfl)) ?_
    refine WL.next ?_
    refine WC.ret ?_
    refine fin1' rfl (by rfl) ?_
    refine RetP.mk hs ?_
    first
      | (simp [isName, hJ, lower]; done)
      | (simp [isName, hJ, lower]; omega)
      | simp_all [isName, hJ, lower]

theorem c_spec_l9Names (l : (Sl Str)) (w : World) (h_l : Ph.ok w l)  : Calls Tryz.prog 232 [Sl.v l].toArray w (RetP w (Bo (hosts l.l))) := by
  have hw := h_l.lt
  refine enterN 19 Tryz.func232 rfl rfl rfl ?_
  have hs := Sat.start w
  refine WC.seq ?_
  refine WL.p (by rfl) (Yl.assign (by rfl)) ?_
  refine WL.next ?_
  refine WC.seq' ?_
  refine WC.seq ?_
  refine WL.p (by rfl) (Yl.assign (by rfl)) ?_
  refine WL.next ?_
  refine WC.block ?_
  refine WC.loopC (ι := Nat) (fun k => l.l.length - k) (fun k => [(3, I (k : Int))]) (fun _ => []) (fun k => l.l.all isName = (l.l.drop k).all isName) [(0, _)] 0 (hs) ⟨by rfl, trivial⟩ ⟨by rfl, trivial⟩ ?_ ?_
  ·
    simp
  clear hs; rintro k w hJ hs
  simp only [List.nil_append] at hs
  refine WC.seq' ?_
  refine WC.seq ?_
  refine WL.p (by rfl) (Yl.move (by rfl)) ?_
  refine WL.p (by rfl) (Yl.move (by rfl)) ?_
  refine WL.p (by rfl) (Yl.len_sl slu53 (by rfl)) ?_
  refine WL.p (by rfl) (Yl.lss (by rfl) (by rfl)) ?_
  refine WL.next ?_
  refine WC.condS (by rfl) (fun h1 => ?_) (fun h1 => ?_)
  ·
    replace h1 := of_decide_eq_true h1
    obtain ⟨d, hd⟩ := exists_get (l := l.l) (k := k) (by omega)
    rw [drop_cons hd] at hJ
    refine WC.skipn ?_
    refine WC.seq' ?_
    refine WC.block ?_
    refine WC.seq ?_
    refine WL.p (by rfl) (Yl.move (by rfl)) ?_
    refine WL.p (by rfl) (Yl.move (by rfl)) ?_
    refine WL.p (by rfl) (Yl.indexAddr slt53 (by rfl) (by rfl) (Ph.old h_l hs) (by rfl) (hd)) ?_
    refine WL.p (by rfl) (Yl.loadC0 sca9 (by rfl) (Sl.Ok.at_ (Ph.old h_l hs) (by assumption)).2 (by rfl)) ?_
    refine WL.callp hs (by rfl) (Yc.func (by rfl) fn106) (c_spec_IsName _ _ (Ph.old (Sl.Ok.elem h_l hd) hs)) ?_
    clear hs; intro w hs
    refine WL.p (by rfl) (Yl.not (by rfl)) ?_
    refine WL.next ?_
    refine WC.condS (by rfl) (fun h2 => ?_) (fun h2 => ?_)
    ·
      replace h2 := not_eq_true h2
      refine WC.seq ?_
      refine WL.p (by rfl) (Yl.assign (by rfl)) ?_
      refine WL.next ?_
      refine WC.ret ?_
      refine At.blockret ?_
      refine At.thenret ?_
      refine At.thenret ?_
      refine At.blockret ?_
      refine At.thenret ?_
      refine fin1' rfl (by rfl) ?_
      refine RetP.mk hs ?_
      have e : l.l.all isName = false := by rw [hJ]; simp_all
      simp [hosts, e]
    ·
      replace h2 := not_eq_false h2
      refine WC.skip ?_
      refine At.blocknormal ?_
      refine At.then_ ?_
      refine WC.region ?_
      refine WL.p (by rfl) (Yl.move (by rfl)) ?_
      refine WL.p (by rfl) (Yl.add (by rfl) (by rfl) (by omega)) ?_
      refine WL.p (by rfl) (Yl.assign (by rfl)) ?_
      refine WL.nil ?_
      refine At.roundC (k + 1) (hs.only (by repeat (first | exact Sel.nil | (apply Sel.cons; (repeat (first | exact Ext.here | apply Ext.there)))))) ⟨by rfl, trivial⟩ ⟨by rfl, trivial⟩ ?_ ?_
      ·
        omega
      ·
        rw [hJ]; simp_all
  ·
    replace h1 := of_decide_eq_false h1
    rw [drop_out (l := l.l) (by omega)] at hJ
    refine WC.exit ?_
    refine At.thenexit ?_
    refine At.thenexit ?_
    refine At.blockexit ?_
    refine At.then_ ?_
    refine WC.seq ?_
    refine WL.p (by rfl) (Yl.move (by rfl)) ?_
    refine WL.p (by rfl) (Yl.len_sl slu53 (by rfl)) ?_
    refine WL.p (by rfl) (Yl.leq (by rfl) (by rfl)) ?_
    refine WL.p (by rfl) (Yl.assign (by rfl)) ?_
    refine WL.next ?_
    refine WC.ret ?_
    refine fin1' rfl (by rfl) ?_
    refine RetP.mk hs ?_
    have e : l.l.all isName = true := by rw [hJ]; rfl
    simp only [hosts, e, dec_le4, Bool.true_and]

theorem c_spec_IsPolicy (p : PPolicy) (w : World) (h_p : Ph.ok w p)  : Calls Tryz.prog 216 [.agg #[Bo p.set, Sl.v p.scripts, Sl.v p.styles, Sl.v p.images, S p.nonce]].toArray w (RetP w (Bo (p.lg.is))) := by
  refine enterN 50 Tryz.func216 rfl rfl rfl ?_
  have hs := Sat.start w
  refine WC.seq ?_
  refine WL.r (by rfl) (Yr.box hs (by rfl) (by rfl)) ?_
  clear hs; rintro _ w ⟨b1, rfl, hb, hs⟩; clear hb
  refine WL.p (by rfl) (Yl.assign (by rfl)) ?_
  refine WL.next ?_
  refine WC.seq' ?_
  refine WC.seq ?_
  refine WL.p (by rfl) (Yl.fieldAddr fa63_0 (by rfl)) ?_
  refine WL.p (by rfl) (Yl.loadB sca4 (by rfl) hs (by repeat (first | exact List.mem_cons_self | apply List.mem_cons_of_mem)) (by rfl)) ?_
  refine WL.p (by rfl) (Yl.not (by rfl)) ?_
  refine WL.next ?_
  refine WC.condS (by rfl) (fun h1 => ?_) (fun h1 => ?_)
  ·
    replace h1 := not_eq_true h1
    refine WC.seq ?_
    refine WL.p (by rfl) (Yl.fieldAddr fa63_1 (by rfl)) ?_
    refine WL.p (by rfl) (Yl.loadB sca53 (by rfl) hs (by repeat (first | exact List.mem_cons_self | apply List.mem_cons_of_mem)) (by rfl)) ?_
    refine WL.p (by rfl) (Yl.len_sl slu53 (by rfl)) ?_
    refine WL.p (by rfl) (Yl.eqi (by rfl) (by rfl)) ?_
    refine WL.p (by rfl) (Yl.move (by rfl)) ?_
    refine WL.split (d := 10) (by rfl) (fun h2 => ?_) (fun h2 => ?_)
    ·
      replace h2 := of_decide_eq_true h2
      refine WL.run (d := 10) (by rfl) (by rfl) ?_
      refine WL.p (by rfl) (Yl.fieldAddr fa63_2 (by rfl)) ?_
      refine WL.run (d := 10) (by rfl) (by rfl) ?_
      refine WL.p (by rfl) (Yl.loadB sca53 (by rfl) hs (by repeat (first | exact List.mem_cons_self | apply List.mem_cons_of_mem)) (by rfl)) ?_
      refine WL.run (d := 10) (by rfl) (by rfl) ?_
      refine WL.p (by rfl) (Yl.len_sl slu53 (by rfl)) ?_
      refine WL.run (d := 10) (by rfl) (by rfl) ?_
      refine WL.p (by rfl) (Yl.eqi (by rfl) (by rfl)) ?_
      refine WL.p (by rfl) (Yl.pickT (by rfl) (by rfl)) ?_
      refine WL.p (by rfl) (Yl.move (by rfl)) ?_
      refine WL.split (d := 16) (by rfl) (fun h3 => ?_) (fun h3 => ?_)
      ·
        replace h3 := of_decide_eq_true h3
        refine WL.run (d := 16) (by rfl) (by rfl) ?_
        refine WL.p (by rfl) (Yl.fieldAddr fa63_3 (by rfl)) ?_
        refine WL.run (d := 16) (by rfl) (by rfl) ?_
        refine WL.p (by rfl) (Yl.loadB sca53 (by rfl) hs (by repeat (first | exact List.mem_cons_self | apply List.mem_cons_of_mem)) (by rfl)) ?_
        refine WL.run (d := 16) (by rfl) (by rfl) ?_
        refine WL.p (by rfl) (Yl.len_sl slu53 (by rfl)) ?_
        refine WL.run (d := 16) (by rfl) (by rfl) ?_
        refine WL.p (by rfl) (Yl.eqi (by rfl) (by rfl)) ?_
        refine WL.p (by rfl) (Yl.pickT (by rfl) (by rfl)) ?_
        refine WL.p (by rfl) (Yl.move (by rfl)) ?_
        refine WL.split (d := 22) (by rfl) (fun h4 => ?_) (fun h4 => ?_)
        ·
          replace h4 := of_decide_eq_true h4
          refine WL.run (d := 22) (by rfl) (by rfl) ?_
          refine WL.p (by rfl) (Yl.fieldAddr fa63_4 (by rfl)) ?_
          refine WL.run (d := 22) (by rfl) (by rfl) ?_
          refine WL.p (by rfl) (Yl.loadB sca9 (by rfl) hs (by repeat (first | exact List.mem_cons_self | apply List.mem_cons_of_mem)) (by rfl)) ?_
          refine WL.run (d := 22) (by rfl) (by rfl) ?_
          refine WL.p (by rfl) (Yl.eqs (by rfl) (by rfl)) ?_
          refine WL.p (by rfl) (Yl.pickT (by rfl) (by rfl)) ?_
          refine WL.p (by rfl) (Yl.assign (by rfl)) ?_
          refine WL.next ?_
          refine WC.ret ?_
          refine At.thenret ?_
          refine fin1' rfl (by rfl) ?_
          refine RetP.mk hs ?_
          simp_all [TPolicy.is]
        ·
          replace h4 := of_decide_eq_false h4
          refine WL.skip (d := 22) (by rfl) (by rfl) (by rfl) (by rfl) ?_
          refine WL.skip (d := 22) (by rfl) (by rfl) (by rfl) (by rfl) ?_
          refine WL.skip (d := 22) (by rfl) (by rfl) (by rfl) (by rfl) ?_
          refine WL.p (by rfl) (Yl.pickF (by rfl) (by rfl)) ?_
          refine WL.p (by rfl) (Yl.assign (by rfl)) ?_
          refine WL.next ?_
          refine WC.ret ?_
          refine At.thenret ?_
          refine fin1' rfl (by rfl) ?_
          refine RetP.mk hs ?_
          simp_all [TPolicy.is]
      ·
        replace h3 := of_decide_eq_false h3
        refine WL.skip (d := 16) (by rfl) (by rfl) (by rfl) (by rfl) ?_
        refine WL.skip (d := 16) (by rfl) (by rfl) (by rfl) (by rfl) ?_
        refine WL.skip (d := 16) (by rfl) (by rfl) (by rfl) (by rfl) ?_
        refine WL.skip (d := 16) (by rfl) (by rfl) (by rfl) (by rfl) ?_
        refine WL.p (by rfl) (Yl.pickF (by rfl) (by rfl)) ?_
        refine WL.p (by rfl) (Yl.move (by rfl)) ?_
        refine WL.skip (d := 22) (by rfl) (by rfl) (by rfl) (by rfl) ?_
        refine WL.skip (d := 22) (by rfl) (by rfl) (by rfl) (by rfl) ?_
        refine WL.skip (d := 22) (by rfl) (by rfl) (by rfl) (by rfl) ?_
        refine WL.p (by rfl) (Yl.pickF (by rfl) (by rfl)) ?_
        refine WL.p (by rfl) (Yl.assign (by rfl)) ?_
        refine WL.next ?_
        refine WC.ret ?_
        refine At.thenret ?_
        refine fin1' rfl (by rfl) ?_
        refine RetP.mk hs ?_
        simp_all [TPolicy.is]
    ·
      replace h2 := of_decide_eq_false h2
      refine WL.skip (d := 10) (by rfl) (by rfl) (by rfl) (by rfl) ?_
      refine WL.skip (d := 10) (by rfl) (by rfl) (by rfl) (by rfl) ?_
      refine WL.skip (d := 10) (by rfl) (by rfl) (by rfl) (by rfl) ?_
      refine WL.skip (d := 10) (by rfl) (by rfl) (by rfl) (by rfl) ?_
      refine WL.p (by rfl) (Yl.pickF (by rfl) (by rfl)) ?_
      refine WL.p (by rfl) (Yl.move (by rfl)) ?_
      refine WL.skip (d := 16) (by rfl) (by rfl) (by rfl) (by rfl) ?_
      refine WL.skip (d := 16) (by rfl) (by rfl) (by rfl) (by rfl) ?_
      refine WL.skip (d := 16) (by rfl) (by rfl) (by rfl) (by rfl) ?_
      refine WL.skip (d := 16) (by rfl) (by rfl) (by rfl) (by rfl) ?_
      refine WL.p (by rfl) (Yl.pickF (by rfl) (by rfl)) ?_
      refine WL.p (by rfl) (Yl.move (by rfl)) ?_
      refine WL.skip (d := 22) (by rfl) (by rfl) (by rfl) (by rfl) ?_
      refine WL.skip (d := 22) (by rfl) (by rfl) (by rfl) (by rfl) ?_
      refine WL.skip (d := 22) (by rfl) (by rfl) (by rfl) (by rfl) ?_
      refine WL.p (by rfl) (Yl.pickF (by rfl) (by rfl)) ?_
      refine WL.p (by rfl) (Yl.assign (by rfl)) ?_
      refine WL.next ?_
      refine WC.ret ?_
      refine At.thenret ?_
      refine fin1' rfl (by rfl) ?_
      refine RetP.mk hs ?_
      simp_all [TPolicy.is]
  ·
    replace h1 := not_eq_false h1
    refine WC.skipn ?_
    refine WC.seq ?_
    refine WL.p (by rfl) (Yl.fieldAddr fa63_1 (by rfl)) ?_
    refine WL.p (by rfl) (Yl.loadB sca53 (by rfl) hs (by repeat (first | exact List.mem_cons_self | apply List.mem_cons_of_mem)) (by rfl)) ?_
    refine WL.callp hs (by rfl) (Yc.func (by rfl) fn232) (c_spec_l9Names _ _ (Ph.old h_p.scripts hs)) ?_
    clear hs; intro w hs
    refine WL.p (by rfl) (Yl.move (by rfl)) ?_
    refine WL.split (d := 30) (by rfl) (fun h2 => ?_) (fun h2 => ?_)
    ·
      refine WL.run (d := 30) (by rfl) (by rfl) ?_
      refine WL.p (by rfl) (Yl.fieldAddr fa63_2 (by rfl)) ?_
      refine WL.run (d := 30) (by rfl) (by rfl) ?_
      refine WL.p (by rfl) (Yl.loadB sca53 (by rfl) hs (by repeat (first | exact List.mem_cons_self | apply List.mem_cons_of_mem)) (by rfl)) ?_
      refine WL.run (d := 30) (by rfl) (by rfl) ?_
      refine WL.callp hs (by rfl) (Yc.func (by rfl) fn232) (c_spec_l9Names _ _ (Ph.old h_p.styles hs)) ?_
      clear hs; intro w hs
      refine WL.p (by rfl) (Yl.pickT (by rfl) (by rfl)) ?_
      refine WL.p (by rfl) (Yl.move (by rfl)) ?_
      refine WL.split (d := 35) (by rfl) (fun h3 => ?_) (fun h3 => ?_)
      ·
        refine WL.run (d := 35) (by rfl) (by rfl) ?_
        refine WL.p (by rfl) (Yl.fieldAddr fa63_3 (by rfl)) ?_
        refine WL.run (d := 35) (by rfl) (by rfl) ?_
        refine WL.p (by rfl) (Yl.loadB sca53 (by rfl) hs (by repeat (first | exact List.mem_cons_self | apply List.mem_cons_of_mem)) (by rfl)) ?_
        refine WL.run (d := 35) (by rfl) (by rfl) ?_
        refine WL.callp hs (by rfl) (Yc.func (by rfl) fn232) (c_spec_l9Names _ _ (Ph.old h_p.images hs)) ?_
        clear hs; intro w hs
        refine WL.p (by rfl) (Yl.pickT (by rfl) (by rfl)) ?_
        refine WL.p (by rfl) (Yl.move (by rfl)) ?_
        refine WL.split (d := 40) (by rfl) (fun h4 => ?_) (fun h4 => ?_)
        ·
          refine WL.run (d := 40) (by rfl) (by rfl) ?_
          refine WL.p (by rfl) (Yl.fieldAddr fa63_4 (by rfl)) ?_
          refine WL.run (d := 40) (by rfl) (by rfl) ?_
          refine WL.p (by rfl) (Yl.loadB sca9 (by rfl) hs (by repeat (first | exact List.mem_cons_self | apply List.mem_cons_of_mem)) (by rfl)) ?_
          refine WL.run (d := 40) (by rfl) (by rfl) ?_
          refine WL.p (by rfl) (Yl.eqs (by rfl) (by rfl)) ?_
          refine WL.run (d := 40) (by rfl) (by rfl) ?_
          refine WL.p (by rfl) (Yl.move (by rfl)) ?_
          refine WL.split (d := 44) (by rfl) (fun h5 => ?_) (fun h5 => ?_)
          ·
            replace h5 := of_decide_eq_true h5
            refine WL.skip (d := 44) (by rfl) (by rfl) (by rfl) (by rfl) ?_
            refine WL.skip (d := 44) (by rfl) (by rfl) (by rfl) (by rfl) ?_
            refine WL.skip (d := 44) (by rfl) (by rfl) (by rfl) (by rfl) ?_
            refine WL.run (d := 40) (by rfl) (by rfl) ?_
            refine WL.p (by rfl) (Yl.pickT (by rfl) (by rfl)) ?_
            refine WL.p (by rfl) (Yl.pickT (by rfl) (by rfl)) ?_
            refine WL.p (by rfl) (Yl.assign (by rfl)) ?_
            refine WL.next ?_
            refine WC.ret ?_
            refine fin1' rfl (by rfl) ?_
            refine RetP.mk hs ?_
            simp_all [TPolicy.is]
          ·
            replace h5 := of_decide_eq_false h5
            refine WL.run (d := 44) (by rfl) (by rfl) ?_
            refine WL.p (by rfl) (Yl.fieldAddr fa63_4 (by rfl)) ?_
            refine WL.run (d := 44) (by rfl) (by rfl) ?_
            refine WL.p (by rfl) (Yl.loadB sca9 (by rfl) hs (by repeat (first | exact List.mem_cons_self | apply List.mem_cons_of_mem)) (by rfl)) ?_
            refine WL.run (d := 44) (by rfl) (by rfl) ?_
            refine WL.callp hs (by rfl) (Yc.func (by rfl) fn190) (c_spec_IsValue _ _ (Ph.old h_p.nonce hs)) ?_
            clear hs; intro w hs
            refine WL.run (d := 40) (by rfl) (by rfl) ?_
            refine WL.p (by rfl) (Yl.pickF (by rfl) (by rfl)) ?_
            refine WL.p (by rfl) (Yl.pickT (by rfl) (by rfl)) ?_
            refine WL.p (by rfl) (Yl.assign (by rfl)) ?_
            refine WL.next ?_
            refine WC.ret ?_
            refine fin1' rfl (by rfl) ?_
            refine RetP.mk hs ?_
            simp_all [TPolicy.is]
        ·
          refine WL.skip (d := 40) (by rfl) (by rfl) (by rfl) (by rfl) ?_
          refine WL.skip (d := 40) (by rfl) (by rfl) (by rfl) (by rfl) ?_
          refine WL.skip (d := 40) (by rfl) (by rfl) (by rfl) (by rfl) ?_
          refine WL.skip (d := 40) (by rfl) (by rfl) (by rfl) (by rfl) ?_
          refine WL.skipU (d := 44) (by rfl) (by rfl) (by rfl) ?_
          refine WL.skipU (d := 44) (by rfl) (by rfl) (by rfl) ?_
          refine WL.skipU (d := 44) (by rfl) (by rfl) (by rfl) ?_
          refine WL.skip (d := 40) (by rfl) (by rfl) (by rfl) (by rfl) ?_
          refine WL.p (by rfl) (Yl.pickF (by rfl) (by rfl)) ?_
          refine WL.p (by rfl) (Yl.assign (by rfl)) ?_
          refine WL.next ?_
          refine WC.ret ?_
          refine fin1' rfl (by rfl) ?_
          refine RetP.mk hs ?_
          simp_all [TPolicy.is]
      ·
        refine WL.skip (d := 35) (by rfl) (by rfl) (by rfl) (by rfl) ?_
        refine WL.skip (d := 35) (by rfl) (by rfl) (by rfl) (by rfl) ?_
        refine WL.skip (d := 35) (by rfl) (by rfl) (by rfl) (by rfl) ?_
        refine WL.p (by rfl) (Yl.pickF (by rfl) (by rfl)) ?_
        refine WL.p (by rfl) (Yl.move (by rfl)) ?_
        refine WL.skip (d := 40) (by rfl) (by rfl) (by rfl) (by rfl) ?_
        refine WL.skip (d := 40) (by rfl) (by rfl) (by rfl) (by rfl) ?_
        refine WL.skip (d := 40) (by rfl) (by rfl) (by rfl) (by rfl) ?_
        refine WL.skip (d := 40) (by rfl) (by rfl) (by rfl) (by rfl) ?_
        refine WL.skipU (d := 44) (by rfl) (by rfl) (by rfl) ?_
        refine WL.skipU (d := 44) (by rfl) (by rfl) (by rfl) ?_
        refine WL.skipU (d := 44) (by rfl) (by rfl) (by rfl) ?_
        refine WL.skip (d := 40) (by rfl) (by rfl) (by rfl) (by rfl) ?_
        refine WL.p (by rfl) (Yl.pickF (by rfl) (by rfl)) ?_
        refine WL.p (by rfl) (Yl.assign (by rfl)) ?_
        refine WL.next ?_
        refine WC.ret ?_
        refine fin1' rfl (by rfl) ?_
        refine RetP.mk hs ?_
        simp_all [TPolicy.is]
    ·
      refine WL.skip (d := 30) (by rfl) (by rfl) (by rfl) (by rfl) ?_
      refine WL.skip (d := 30) (by rfl) (by rfl) (by rfl) (by rfl) ?_
      refine WL.skip (d := 30) (by rfl) (by rfl) (by rfl) (by rfl) ?_
      refine WL.p (by rfl) (Yl.pickF (by rfl) (by rfl)) ?_
      refine WL.p (by rfl) (Yl.move (by rfl)) ?_
      refine WL.skip (d := 35) (by rfl) (by rfl) (by rfl) (by rfl) ?_
      refine WL.skip (d := 35) (by rfl) (by rfl) (by rfl) (by rfl) ?_
      refine WL.skip (d := 35) (by rfl) (by rfl) (by rfl) (by rfl) ?_
      refine WL.p (by rfl) (Yl.pickF (by rfl) (by rfl)) ?_
      refine WL.p (by rfl) (Yl.move (by rfl)) ?_
      refine WL.skip (d := 40) (by rfl) (by rfl) (by rfl) (by rfl) ?_
      refine WL.skip (d := 40) (by rfl) (by rfl) (by rfl) (by rfl) ?_
      refine WL.skip (d := 40) (by rfl) (by rfl) (by rfl) (by rfl) ?_
      refine WL.skip (d := 40) (by rfl) (by rfl) (by rfl) (by rfl) ?_
      refine WL.skipU (d := 44) (by rfl) (by rfl) (by rfl) ?_
      refine WL.skipU (d := 44) (by rfl) (by rfl) (by rfl) ?_
      refine WL.skipU (d := 44) (by rfl) (by rfl) (by rfl) ?_
      refine WL.skip (d := 40) (by rfl) (by rfl) (by rfl) (by rfl) ?_
      refine WL.p (by rfl) (Yl.pickF (by rfl) (by rfl)) ?_
      refine WL.p (by rfl) (Yl.assign (by rfl)) ?_
      refine WL.next ?_
      refine WC.ret ?_
      refine fin1' rfl (by rfl) ?_
      refine RetP.mk hs ?_
      simp_all [TPolicy.is]

theorem c_spec_l9Words (word : Str) (l : (Sl Str)) (w : World) (h_l : Ph.ok w l) (hb : word.length + strsz l.l ≤ 4194304) : Calls Tryz.prog 217 [S word, Sl.v l].toArray w (RetP w (S (wordsText word l.l))) := by
  have hw := h_l.lt
  refine enterN 20 Tryz.func217 rfl rfl rfl ?_
  have hs := Sat.start w
  refine WC.seq ?_
  refine WL.p (by rfl) (Yl.assign (by rfl)) ?_
  refine WL.next ?_
  refine WC.seq' ?_
  refine WC.seq ?_
  refine WL.p (by rfl) (Yl.assign (by rfl)) ?_
  refine WL.next ?_
  refine WC.block ?_
  refine WC.loopC (ι := Nat × Str) (fun ⟨k, s⟩ => l.l.length - k) (fun ⟨k, s⟩ => [(5, I (k : Int)), (0, S s)]) (fun _ => []) (fun ⟨k, s⟩ => k ≤ l.l.length ∧ s = wordsText word (l.l.take k)) [(1, _), (4, _)] (0, word) (hs) ⟨by rfl, by rfl, trivial⟩ ⟨by rfl, by rfl, trivial⟩ ?_ ?_
  ·
    exact ⟨Nat.zero_le _, by rw [List.take_zero, wordsText_nil]⟩
  clear hs; rintro ⟨k, s⟩ w ⟨hJ1, hJ2⟩ hs
  simp only [List.nil_append] at hs
  refine WC.seq' ?_
  refine WC.seq ?_
  refine WL.p (by rfl) (Yl.move (by rfl)) ?_
  refine WL.p (by rfl) (Yl.move (by rfl)) ?_
  refine WL.p (by rfl) (Yl.len_sl slu53 (by rfl)) ?_
  refine WL.p (by rfl) (Yl.lss (by rfl) (by rfl)) ?_
  refine WL.next ?_
  refine WC.condS (by rfl) (fun h1 => ?_) (fun h1 => ?_)
  ·
    replace h1 := of_decide_eq_true h1
    obtain ⟨d, hd⟩ := exists_get (l := l.l) (k := k) (by omega)
    have hsl := wordsText_len word (l.l.take k)
    have hsz := lsz_take List.length l.l k
    rw [← hJ2] at hsl
    have hdl := lsum_le (f := List.length) (List.mem_of_getElem? hd)
    simp only [strsz, lsz] at hb hsl
    try simp only [lsz] at hsz
    refine WC.skipn ?_
    refine WC.seq' ?_
    refine WC.block ?_
    refine WC.region ?_
    refine WL.p (by rfl) (Yl.move (by rfl)) ?_
    refine WL.p (by rfl) (Yl.cat (by rfl) (by rfl) (by simp only [List.length_append, List.length_cons, List.length_nil] at *; omega)) ?_
    refine WL.p (by rfl) (Yl.move (by rfl)) ?_
    refine WL.p (by rfl) (Yl.move (by rfl)) ?_
    refine WL.p (by rfl) (Yl.indexAddr slt53 (by rfl) (by rfl) (Ph.old h_l hs) (by rfl) (hd)) ?_
    refine WL.p (by rfl) (Yl.loadC0 sca9 (by rfl) (Sl.Ok.at_ (Ph.old h_l hs) (by assumption)).2 (by rfl)) ?_
    refine WL.p (by rfl) (Yl.cat (by rfl) (by rfl) (by simp only [List.length_append, List.length_cons, List.length_nil] at *; omega)) ?_
    refine WL.p (by rfl) (Yl.assign (by rfl)) ?_
    refine WL.nil ?_
    refine At.blocknormal ?_
    refine At.then_ ?_
    refine WC.region ?_
    refine WL.p (by rfl) (Yl.move (by rfl)) ?_
    refine WL.p (by rfl) (Yl.add (by rfl) (by rfl) (by omega)) ?_
    refine WL.p (by rfl) (Yl.assign (by rfl)) ?_
    refine WL.nil ?_
    refine At.roundC (k + 1, s ++ [32] ++ d) (hs.only (by repeat (first | exact Sel.nil | (apply Sel.cons; (repeat (first | exact Ext.here | apply Ext.there)))))) ⟨by rfl, by rfl, trivial⟩ ⟨by rfl, by rfl, trivial⟩ ?_ ?_
    ·
      show l.l.length - (k + 1) < l.l.length - k
      omega
    ·
      exact ⟨by omega, by rw [wordsText_snoc _ hd, hJ2]⟩
  ·
    replace h1 := of_decide_eq_false h1
    refine WC.exit ?_
    refine At.thenexit ?_
    refine At.thenexit ?_
    refine At.blockexit ?_
    refine At.then_ ?_
    refine WC.seq ?_
    refine WL.p (by rfl) (Yl.move (by rfl)) ?_
    refine WL.p (by rfl) (Yl.assign (by rfl)) ?_
    refine WL.next ?_
    refine WC.ret ?_
    refine fin1' rfl (by rfl) ?_
    refine RetP.mk hs ?_
    rw [hJ2, show k = l.l.length from by omega, List.take_length]

theorem c_spec_FormatPolicy (p : PPolicy) (w : World) (h_p : Ph.ok w p) (hb : p.lg.size ≤ 2097152) : Calls Tryz.prog 193 [.agg #[Bo p.set, Sl.v p.scripts, Sl.v p.styles, Sl.v p.images, S p.nonce]].toArray w (RetP w (S (fmtPolicy p.lg))) := by
  refine enterN 34 Tryz.func193 rfl rfl rfl ?_
  have hs := Sat.start w
  refine WC.seq ?_
  refine WL.r (by rfl) (Yr.box hs (by rfl) (by rfl)) ?_
  clear hs; rintro _ w ⟨b1, rfl, hb, hs⟩; clear hb
  refine WL.p (by rfl) (Yl.assign (by rfl)) ?_
  refine WL.next ?_
  refine WC.seq' ?_
  refine WC.seq ?_
  refine WL.p (by rfl) (Yl.loadAB agg63 (by rfl) hs (by repeat (first | exact List.mem_cons_self | apply List.mem_cons_of_mem)) (by rfl) (by rfl)) ?_
  refine WL.callp hs (by rfl) (Yc.func (by rfl) fn216) (c_spec_IsPolicy _ _ (Ph.old h_p hs)) ?_
  clear hs; intro w hs
  refine WL.p (by rfl) (Yl.not (by rfl)) ?_
  refine WL.p (by rfl) (Yl.move (by rfl)) ?_
  refine WL.split (d := 7) (by rfl) (fun h1 => ?_) (fun h1 => ?_)
  ·
    replace h1 := not_eq_true h1
    refine WL.skip (d := 7) (by rfl) (by rfl) (by rfl) (by rfl) ?_
    refine WL.skip (d := 7) (by rfl) (by rfl) (by rfl) (by rfl) ?_
    refine WL.skip (d := 7) (by rfl) (by rfl) (by rfl) (by rfl) ?_
    refine WL.p (by rfl) (Yl.pickT (by rfl) (by rfl)) ?_
    refine WL.next ?_
    refine WC.condT (by rfl) ?_
    refine WC.seq ?_
    refine WL.p (by rfl) (Yl.assign (by rfl)) ?_
    refine WL.next ?_
    refine WC.ret ?_
    refine At.thenret ?_
    refine fin1' rfl (by rfl) ?_
    refine RetP.mk hs ?_
    first
      | (simp [fmtPolicy, h1]; done)
      | (simp [fmtPolicy, h2]; done)
      | (simp [fmtPolicy, h1, h2, h3]; done)
  ·
    replace h1 := not_eq_false h1
    refine WL.run (d := 7) (by rfl) (by rfl) ?_
    refine WL.p (by rfl) (Yl.fieldAddr fa63_0 (by rfl)) ?_
    refine WL.run (d := 7) (by rfl) (by rfl) ?_
    refine WL.p (by rfl) (Yl.loadB sca4 (by rfl) hs (by repeat (first | exact List.mem_cons_self | apply List.mem_cons_of_mem)) (by rfl)) ?_
    refine WL.run (d := 7) (by rfl) (by rfl) ?_
    refine WL.p (by rfl) (Yl.not (by rfl)) ?_
    refine WL.p (by rfl) (Yl.pickF (by rfl) (by rfl)) ?_
    refine WL.next ?_
    refine WC.condS (by rfl) (fun h2 => ?_) (fun h2 => ?_)
    ·
      replace h2 := not_eq_true h2
      refine WC.seq ?_
      refine WL.p (by rfl) (Yl.assign (by rfl)) ?_
      refine WL.next ?_
      refine WC.ret ?_
      refine At.thenret ?_
      refine fin1' rfl (by rfl) ?_
      refine RetP.mk hs ?_
      first
        | (simp [fmtPolicy, h1]; done)
        | (simp [fmtPolicy, h2]; done)
        | (simp [fmtPolicy, h1, h2, h3]; done)
    ·
      replace h2 := not_eq_false h2
      refine WC.skipn ?_
      refine WC.quietn mixed (by kernel_rfl) hs ?_
      refine WQ.p (by rfl) (fun w hs => Yl.fieldAddr fa63_1 (by rfl)) ?_
      refine WQ.p (by rfl) (fun w hs => Yl.loadB sca53 (by rfl) hs (by repeat (first | exact List.mem_cons_self | apply List.mem_cons_of_mem)) (by rfl)) ?_
      refine WQ.callp (by rfl) (fun w => Yc.func (by rfl) fn217) (fun w hs => (c_spec_l9Words _ _ _ (Ph.old h_p.scripts hs) (by first | assumption | (simp only [TPolicy.size, PPolicy.lg, List.length_cons, List.length_nil] at *; omega)))) (fun _ _ hs hb => hs.ext hb) ?_
      refine WQ.p (by rfl) (fun w hs => Yl.cat (by rfl) (by rfl) (by have := wordsText_len [115, 99, 114, 105, 112, 116] p.scripts.l; have := wordsText_len [115, 116, 121, 108, 101] p.styles.l; have := wordsText_len [105, 109, 103] p.images.l; simp only [List.length_append, List.length_cons, List.length_nil, TPolicy.size, PPolicy.lg] at *; omega)) ?_
      refine WQ.p (by rfl) (fun w hs => Yl.fieldAddr fa63_2 (by rfl)) ?_
      refine WQ.p (by rfl) (fun w hs => Yl.loadB sca53 (by rfl) hs (by repeat (first | exact List.mem_cons_self | apply List.mem_cons_of_mem)) (by rfl)) ?_
      refine WQ.callp (by rfl) (fun w => Yc.func (by rfl) fn217) (fun w hs => (c_spec_l9Words _ _ _ (Ph.old h_p.styles hs) (by first | assumption | (simp only [TPolicy.size, PPolicy.lg, List.length_cons, List.length_nil] at *; omega)))) (fun _ _ hs hb => hs.ext hb) ?_
      refine WQ.p (by rfl) (fun w hs => Yl.cat (by rfl) (by rfl) (by have := wordsText_len [115, 99, 114, 105, 112, 116] p.scripts.l; have := wordsText_len [115, 116, 121, 108, 101] p.styles.l; have := wordsText_len [105, 109, 103] p.images.l; simp only [List.length_append, List.length_cons, List.length_nil, TPolicy.size, PPolicy.lg] at *; omega)) ?_
      refine WQ.p (by rfl) (fun w hs => Yl.cat (by rfl) (by rfl) (by have := wordsText_len [115, 99, 114, 105, 112, 116] p.scripts.l; have := wordsText_len [115, 116, 121, 108, 101] p.styles.l; have := wordsText_len [105, 109, 103] p.images.l; simp only [List.length_append, List.length_cons, List.length_nil, TPolicy.size, PPolicy.lg] at *; omega)) ?_
      refine WQ.p (by rfl) (fun w hs => Yl.fieldAddr fa63_3 (by rfl)) ?_
      refine WQ.p (by rfl) (fun w hs => Yl.loadB sca53 (by rfl) hs (by repeat (first | exact List.mem_cons_self | apply List.mem_cons_of_mem)) (by rfl)) ?_
      refine WQ.callp (by rfl) (fun w => Yc.func (by rfl) fn217) (fun w hs => (c_spec_l9Words _ _ _ (Ph.old h_p.images hs) (by first | assumption | (simp only [TPolicy.size, PPolicy.lg, List.length_cons, List.length_nil] at *; omega)))) (fun _ _ hs hb => hs.ext hb) ?_
      refine WQ.p (by rfl) (fun w hs => Yl.cat (by rfl) (by rfl) (by have := wordsText_len [115, 99, 114, 105, 112, 116] p.scripts.l; have := wordsText_len [115, 116, 121, 108, 101] p.styles.l; have := wordsText_len [105, 109, 103] p.images.l; simp only [List.length_append, List.length_cons, List.length_nil, TPolicy.size, PPolicy.lg] at *; omega)) ?_
      refine WQ.p (by rfl) (fun w hs => Yl.assign (by rfl)) ?_
      refine WQ.next ?_
      clear hs; intro w hs
      refine WC.seq' ?_
      refine WC.seq ?_
      refine WL.p (by rfl) (Yl.fieldAddr fa63_4 (by rfl)) ?_
      refine WL.p (by rfl) (Yl.loadB sca9 (by rfl) hs (by repeat (first | exact List.mem_cons_self | apply List.mem_cons_of_mem)) (by rfl)) ?_
      refine WL.p (by rfl) (Yl.nes (by rfl) (by rfl)) ?_
      refine WL.next ?_
      refine WC.condS (by rfl) (fun h3 => ?_) (fun h3 => ?_)
      ·
        replace h3 := not_eq_true h3
        replace h3 := of_decide_eq_false h3
        refine WC.region ?_
        refine WL.p (by rfl) (Yl.move (by rfl)) ?_
        refine WL.p (by rfl) (Yl.cat (by rfl) (by rfl) (by have := wordsText_len [115, 99, 114, 105, 112, 116] p.scripts.l; have := wordsText_len [115, 116, 121, 108, 101] p.styles.l; have := wordsText_len [105, 109, 103] p.images.l; simp only [List.length_append, List.length_cons, List.length_nil, TPolicy.size, PPolicy.lg] at *; omega)) ?_
        refine WL.p (by rfl) (Yl.fieldAddr fa63_4 (by rfl)) ?_
        refine WL.p (by rfl) (Yl.loadB sca9 (by rfl) hs (by repeat (first | exact List.mem_cons_self | apply List.mem_cons_of_mem)) (by rfl)) ?_
        refine WL.p (by rfl) (Yl.cat (by rfl) (by rfl) (by have := wordsText_len [115, 99, 114, 105, 112, 116] p.scripts.l; have := wordsText_len [115, 116, 121, 108, 101] p.styles.l; have := wordsText_len [105, 109, 103] p.images.l; simp only [List.length_append, List.length_cons, List.length_nil, TPolicy.size, PPolicy.lg] at *; omega)) ?_
        refine WL.p (by rfl) (Yl.assign (by rfl)) ?_
        refine WL.nil ?_
        refine At.then_ ?_
        refine WC.seq ?_
        refine WL.p (by rfl) (Yl.move (by rfl)) ?_
        refine WL.p (by rfl) (Yl.assign (by rfl)) ?_
        refine WL.next ?_
        refine WC.ret ?_
        refine fin1' rfl (by rfl) ?_
        refine RetP.mk hs ?_
        first
          | (simp [fmtPolicy, h1]; done)
          | (simp [fmtPolicy, h2]; done)
          | (simp [fmtPolicy, h1, h2, h3]; done)
      ·
        replace h3 := not_eq_false h3
        replace h3 := of_decide_eq_true h3
        refine WC.skipn ?_
        refine WC.seq ?_
        refine WL.p (by rfl) (Yl.move (by rfl)) ?_
        refine WL.p (by rfl) (Yl.assign (by rfl)) ?_
        refine WL.next ?_
        refine WC.ret ?_
        refine fin1' rfl (by rfl) ?_
        refine RetP.mk hs ?_
        first
          | (simp [fmtPolicy, h1]; done)
          | (simp [fmtPolicy, h2]; done)
          | (simp [fmtPolicy, h1, h2, h3]; done)

end Go.Sw
