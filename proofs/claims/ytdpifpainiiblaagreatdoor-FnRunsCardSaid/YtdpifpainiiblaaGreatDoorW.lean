/- Walks: what each function of the program returns, for every input. Printed by gen.py. -/
import Derived.Test.YtdpifpainiiblaaGreatDoorW1
set_option linter.all false
namespace Go.Sw
open Go Go.RowKit Go.Proofs

theorem c_spec_l8Line (s : Str) (w : World) (h_s : Ph.ok w s) (hb : s.length ≤ 2097152) : Calls Tryz.prog 105 [S s].toArray w (RetP w (.tuple #[.agg (Ph.enc (specLine s)).toArray, Bo (lineIs s)])) := by
 refine enterN 63 Tryz.func105 rfl rfl rfl ?_
 have hs := Sat.start w
 refine WC.seq ?_
 refine WL.r Q0 (Yr.alloc hs zt54) ?_
 clear hs; rintro _ w ⟨b1, rfl, hb, hs⟩; clear hb
 refine Qa ?_
 refine WL.next ?_
 refine WC.seq ?_
 refine WL.call hs Q0 (Yc.func Q0 fn132) (c_spec_l8Words _) ?_
 have hs0 := hs; clear hs; intro v w hb hR hs; clear hs
 obtain ⟨x2, rfl, hx2, hf2⟩ := hR
 obtain ⟨F2, hs⟩ := hf2.sat hs0 hb; clear hs0 hf2
 have hle2 := Sl.Ok.le (hs.okow (x := x2) (F := F2) Q1)
 refine Qa ?_
 refine WL.next ?_
 refine WC.seq' ?_
 refine WC.seq ?_
 refine Qa ?_
 refine WL.next ?_
 refine WC.block ?_
 refine WC.loopC (ι := Nat) (fun k => 6 - k) (fun k => [(5, I (k : Int))]) (fun k => [box b1 54 [.int .i64 0, .string ⟨#[]⟩], ow x2 F2]) (fun k => 1 ≤ k ∧ ∀ j : Int, 1 ≤ j → j < k → (opPre j).isPrefixOf s = false) [(0, _), (2, _), (4, _)] 1 (hs.sel (D := [box b1 54 _, ow x2 F2]) Q2) ⟨by rfl, by rfl, by rfl, trivial⟩ ⟨by rfl, trivial⟩ ?_ ?_
 ·
  exact ⟨Nat.le_refl _, fun j a b => by omega⟩
 clear hs; rintro k w ⟨hJ1, hJ2⟩ hs
 simp only [List.cons_append, List.nil_append] at hs
 have hwl : x2.l.length = 6 := by rw [hx2]; rfl
 refine WC.seq' ?_
 refine WC.seq ?_
 refine Qm ?_
 refine Qm ?_
 refine WL.p Q0 (Yl.len_sl slu48 Q0) ?_
 refine WL.p Q0 (Yl.lss Q0 Q0) ?_
 refine WL.next ?_
 refine WC.condS Q0 (fun h1 => ?_) (fun h1 => ?_)
 ·
  replace h1 := of_decide_eq_true h1
  have hd : x2.l[k]? = some (opPre (k : Int)) := by
   rw [hx2]
   have := opWords_get (k := (k : Int)) ⟨by omega, by omega⟩
   simpa [opPre] using this
  have hpl := opPre_len (k : Int)
  refine WC.skipn ?_
  refine WC.seq' ?_
  refine WC.block ?_
  refine WC.seq ?_
  refine Qm ?_
  refine Qm ?_
  refine WL.p Q0 (Yl.indexAddr slt48 Q0 Q0 (hs.okow (x := x2) (F := F2) Q1) Q0 (hd)) ?_
  refine WL.p Q0 (Yl.loadC0 sca9 Q0 (Sl.Ok.at_ (hs.okow (x := x2) (F := F2) Q1) (by assumption)).2 Q0) ?_
  refine Qa ?_
  refine WL.next ?_
  refine WC.seq ?_
  refine Qm ?_
  refine WL.p Q0 (Yl.len_str str9 Q0) ?_
  refine Qm ?_
  refine WL.p Q0 (Yl.len_str str9 Q0) ?_
  refine WL.p Q0 (Yl.geq Q0 Q0) ?_
  refine Qm ?_
  refine WL.split (d := 25) Q0 (fun h2 => ?_) (fun h2 => ?_)
  ·
   replace h2 := of_decide_eq_true h2
   refine WL.run (d := 25) Q0 Q0 ?_
   refine Qm ?_
   refine WL.run (d := 25) Q0 Q0 ?_
   refine Qm ?_
   refine WL.run (d := 25) Q0 Q0 ?_
   refine WL.p Q0 (Yl.len_str str9 Q0) ?_
   refine WL.run (d := 25) Q0 Q0 ?_
   refine WL.p Q0 (Yl.slice_str (l := 0) str9 Q0 (by exact rfl) (by exact ⟨_, by rfl⟩) Q7 Q7) ?_
   refine WL.run (d := 25) Q0 Q0 ?_
   refine Qm ?_
   refine WL.run (d := 25) Q0 Q0 ?_
   refine WL.p Q0 (Yl.eqs Q0 Q0) ?_
   refine WL.p Q0 (Yl.pickT Q0 Q0) ?_
   refine WL.next ?_
   refine WC.condS Q0 (fun h3 => ?_) (fun h3 => ?_)
   ·
    replace h3 := of_decide_eq_true h3
    refine WC.seq ?_
    refine Qm ?_
    refine Qm ?_
    refine Qm ?_
    refine WL.p Q0 (Yl.len_str str9 Q0) ?_
    refine WL.p Q0 (Yl.slice_str str9 Q0 (by exact ⟨_, by rfl⟩) (by exact rfl) Q7 Q7) ?_
    refine WL.p Q0 (Yl.build bt54 Q0 Q4) ?_
    refine WL.r Q0 (Yr.alloc hs zt54) ?_
    clear hs; rintro _ w ⟨b3, rfl, hb, hs⟩; clear hb
    refine WL.s (Yr.storeB hs Q0 Q0 Q0 Q5 Q3 Q0 (by exact szf54)) ?_
    clear hs; rintro _ w hs
    refine WL.next ?_
    refine WC.seq ?_
    refine Qm ?_
    refine WL.p Q0 (Yl.eqi Q0 Q0) ?_
    refine Qm ?_
    refine WL.split (d := 41) Q0 (fun h4 => ?_) (fun h4 => ?_)
    ·
     replace h4 := of_decide_eq_true h4
     refine WL.skip (d := 41) Q0 Q0 Q0 Q0 ?_
     refine WL.skip (d := 41) Q0 Q0 Q0 Q0 ?_
     refine WL.p Q0 (Yl.pickT Q0 Q0) ?_
     refine Qa ?_
     refine WL.next ?_
     refine WC.anyn2 (c := box b1 _ _) mixed hs (by repeat (first | exact Ext.here | apply Ext.there)) ?_
     clear hs; intro w hs
     refine WA.p (i := 0) Q0 Q6 Q6 Q6 Q0 (hs.only Q2) (fun w hs => Yl.loadAB agg54 Q0 hs Q1 Q0 Q0) ?_
     refine WA.p (i := 1) Q0 Q6 Q6 Q6 Q0 (hs.only Q2) (fun w hs => Yl.move Q0) ?_
     refine WA.p (i := 2) Q0 Q6 Q6 Q6 Q0 (hs.only Q2) (fun w hs => Yl.move Q0) ?_
     refine WA.pg (i := 3) (d := 47) Q0 Q6 Q6 Q6 Q0 Q0 Q0 (hs.only Q2) (fun w hs => Yl.fieldAddr fa54_1 Q0) ?_
     refine WA.pg (i := 4) (d := 47) Q0 Q6 Q6 Q6 Q0 Q0 Q0 (hs.only Q2) (fun w hs => Yl.loadB sca9 Q0 hs Q1 Q0) ?_
     refine WA.pg (i := 5) (d := 47) Q0 Q6 Q6 Q6 Q0 Q0 Q0 (hs.only Q2) (fun w hs => Yl.len_str str9 Q0) ?_
     refine WA.pg (i := 6) (d := 47) Q0 Q6 Q6 Q6 Q0 Q0 Q0 (hs.only Q2) (fun w hs => Yl.leq Q0 Q0) ?_
     refine WA.p (i := 7) Q0 Q6 Q6 Q6 Q0 (hs.only Q2) (fun w hs => Yl.pickT Q0 Q0) ?_
     refine WA.p (i := 8) Q0 Q6 Q6 Q6 Q0 (hs.only Q2) (fun w hs => Yl.move Q0) ?_
     refine WA.split (d := 53) Q0 (fun h5 => ?_) (fun h5 => ?_)
     ·
      replace h5 := of_decide_eq_true h5
      refine WA.skip (i := 9) (d := 53) Q0 Q6 Q6 Q6 Q0 Q0 Q0 Q0 (hs.only Q2) ?_
      refine WA.skip (i := 10) (d := 53) Q0 Q6 Q6 Q6 Q0 Q0 Q0 Q0 (hs.only Q2) ?_
      refine WA.skip (i := 11) (d := 53) Q0 Q6 Q6 Q6 Q0 Q0 Q0 Q0 (hs.only Q2) ?_
      refine WA.skipU (i := 12) (d := 56) Q0 Q6 Q6 Q6 Q0 Q0 Q0 (hs.only Q2) ?_
      refine WA.skipU (i := 13) (d := 56) Q0 Q6 Q6 Q6 Q0 Q0 Q0 (hs.only Q2) ?_
      refine WA.skipU (i := 14) (d := 56) Q0 Q6 Q6 Q6 Q0 Q0 Q0 (hs.only Q2) ?_
      refine WA.skip (i := 15) (d := 53) Q0 Q6 Q6 Q6 Q0 Q0 Q0 Q0 (hs.only Q2) ?_
      refine WA.p (i := 16) Q0 Q6 Q6 Q6 Q0 (hs.only Q2) (fun w hs => Yl.pickT Q0 Q0) ?_
      refine WA.s (i := 17) Q6 Q0 (Yr.storeB hs Q0 Q0 Q0 Q5 Q3 Q0 (by exact szf54)) (by rintro _ w hs; exact hs.only Q2) ?_
      clear hs; rintro _ w hs
      refine WA.p (i := 18) Q0 Q6 Q6 Q6 Q0 (hs.only Q2) (fun w hs => Yl.assign Q0) ?_
      refine WA.donen Q6 ?_
      refine WC.ret ?_
      refine At.blockret ?_
      refine At.thenret ?_
      refine At.thenret ?_
      refine At.blockret ?_
      refine At.thenret ?_
      refine fin2c rfl agg54 Q0 Q0 hs Q1 Q0 ?_
      refine RetP.mk hs ?_
      first
       | (have ho : opOf s = 0 := opOf_none (fun j a b => hJ2 j a Q7)
          simp only [specLine, lineIs, ho]; rfl)
       | (obtain ⟨e, e3⟩ := specLine_hit hJ1 Q7 h3 hJ2
          rw [e, e3]
          clear e e3 h3 hJ2 hd hpl hs
          generalize (s.drop (opPre (k : Int)).length).take (s.length - (opPre (k : Int)).length) = tx at *
          refine congrArg (fun b => Value.tuple #[.agg (Ph.enc (⟨(k : Int), tx⟩ : TLine)).toArray, Bo b]) ?_
          clear hwl h2 h1 hJ1
          simp only [lineGood]
          first
            | (simp_all; done)
            | (simp_all; omega))
     ·
      replace h5 := of_decide_eq_false h5
      refine WA.pg (i := 9) (d := 53) Q0 Q6 Q6 Q6 Q0 Q0 Q0 (hs.only Q2) (fun w hs => Yl.move Q0) ?_
      refine WA.pg (i := 10) (d := 53) Q0 Q6 Q6 Q6 Q0 Q0 Q0 (hs.only Q2) (fun w hs => Yl.not Q0) ?_
      refine WA.pg (i := 11) (d := 53) Q0 Q6 Q6 Q6 Q0 Q0 Q0 (hs.only Q2) (fun w hs => Yl.move Q0) ?_
      refine WA.skip (i := 12) (d := 56) Q0 Q6 Q6 Q6 Q0 Q0 Q0 Q0 (hs.only Q2) ?_
      refine WA.skip (i := 13) (d := 56) Q0 Q6 Q6 Q6 Q0 Q0 Q0 Q0 (hs.only Q2) ?_
      refine WA.skip (i := 14) (d := 56) Q0 Q6 Q6 Q6 Q0 Q0 Q0 Q0 (hs.only Q2) ?_
      refine WA.pg (i := 15) (d := 53) Q0 Q6 Q6 Q6 Q0 Q0 Q0 (hs.only Q2) (fun w hs => Yl.pickF Q0 Q0) ?_
      refine WA.p (i := 16) Q0 Q6 Q6 Q6 Q0 (hs.only Q2) (fun w hs => Yl.pickF Q0 Q0) ?_
      refine WA.s (i := 17) Q6 Q0 (Yr.storeB hs Q0 Q0 Q0 Q5 Q3 Q0 (by exact szf54)) (by rintro _ w hs; exact hs.only Q2) ?_
      clear hs; rintro _ w hs
      refine WA.p (i := 18) Q0 Q6 Q6 Q6 Q0 (hs.only Q2) (fun w hs => Yl.assign Q0) ?_
      refine WA.donen Q6 ?_
      refine WC.ret ?_
      refine At.blockret ?_
      refine At.thenret ?_
      refine At.thenret ?_
      refine At.blockret ?_
      refine At.thenret ?_
      refine fin2c rfl agg54 Q0 Q0 hs Q1 Q0 ?_
      refine RetP.mk hs ?_
      first
       | (have ho : opOf s = 0 := opOf_none (fun j a b => hJ2 j a Q7)
          simp only [specLine, lineIs, ho]; rfl)
       | (obtain ⟨e, e3⟩ := specLine_hit hJ1 Q7 h3 hJ2
          rw [e, e3]
          clear e e3 h3 hJ2 hd hpl hs
          generalize (s.drop (opPre (k : Int)).length).take (s.length - (opPre (k : Int)).length) = tx at *
          refine congrArg (fun b => Value.tuple #[.agg (Ph.enc (⟨(k : Int), tx⟩ : TLine)).toArray, Bo b]) ?_
          clear hwl h2 h1 hJ1
          simp only [lineGood]
          first
            | (simp_all; done)
            | (simp_all; omega))
    ·
     replace h4 := of_decide_eq_false h4
     refine WL.run (d := 41) Q0 Q0 ?_
     refine Qm ?_
     refine WL.run (d := 41) Q0 Q0 ?_
     refine WL.p Q0 (Yl.eqi Q0 Q0) ?_
     refine WL.p Q0 (Yl.pickF Q0 Q0) ?_
     refine Qa ?_
     refine WL.next ?_
     refine WC.anyn2 (c := box b1 _ _) mixed hs (by repeat (first | exact Ext.here | apply Ext.there)) ?_
     clear hs; intro w hs
     refine WA.p (i := 0) Q0 Q6 Q6 Q6 Q0 (hs.only Q2) (fun w hs => Yl.loadAB agg54 Q0 hs Q1 Q0 Q0) ?_
     refine WA.p (i := 1) Q0 Q6 Q6 Q6 Q0 (hs.only Q2) (fun w hs => Yl.move Q0) ?_
     refine WA.p (i := 2) Q0 Q6 Q6 Q6 Q0 (hs.only Q2) (fun w hs => Yl.move Q0) ?_
     refine WA.split (d := 47) Q0 (fun h5 => ?_) (fun h5 => ?_)
     ·
      replace h5 := of_decide_eq_true h5
      refine WA.pg (i := 3) (d := 47) Q0 Q6 Q6 Q6 Q0 Q0 Q0 (hs.only Q2) (fun w hs => Yl.fieldAddr fa54_1 Q0) ?_
      refine WA.pg (i := 4) (d := 47) Q0 Q6 Q6 Q6 Q0 Q0 Q0 (hs.only Q2) (fun w hs => Yl.loadB sca9 Q0 hs Q1 Q0) ?_
      refine WA.pg (i := 5) (d := 47) Q0 Q6 Q6 Q6 Q0 Q0 Q0 (hs.only Q2) (fun w hs => Yl.len_str str9 Q0) ?_
      refine WA.pg (i := 6) (d := 47) Q0 Q6 Q6 Q6 Q0 Q0 Q0 (hs.only Q2) (fun w hs => Yl.leq Q0 Q0) ?_
      refine WA.p (i := 7) Q0 Q6 Q6 Q6 Q0 (hs.only Q2) (fun w hs => Yl.pickT Q0 Q0) ?_
      refine WA.p (i := 8) Q0 Q6 Q6 Q6 Q0 (hs.only Q2) (fun w hs => Yl.move Q0) ?_
      refine WA.split (d := 53) Q0 (fun h6 => ?_) (fun h6 => ?_)
      ·
       replace h6 := of_decide_eq_true h6
       refine WA.skip (i := 9) (d := 53) Q0 Q6 Q6 Q6 Q0 Q0 Q0 Q0 (hs.only Q2) ?_
       refine WA.skip (i := 10) (d := 53) Q0 Q6 Q6 Q6 Q0 Q0 Q0 Q0 (hs.only Q2) ?_
       refine WA.skip (i := 11) (d := 53) Q0 Q6 Q6 Q6 Q0 Q0 Q0 Q0 (hs.only Q2) ?_
       refine WA.skipU (i := 12) (d := 56) Q0 Q6 Q6 Q6 Q0 Q0 Q0 (hs.only Q2) ?_
       refine WA.skipU (i := 13) (d := 56) Q0 Q6 Q6 Q6 Q0 Q0 Q0 (hs.only Q2) ?_
       refine WA.skipU (i := 14) (d := 56) Q0 Q6 Q6 Q6 Q0 Q0 Q0 (hs.only Q2) ?_
       refine WA.skip (i := 15) (d := 53) Q0 Q6 Q6 Q6 Q0 Q0 Q0 Q0 (hs.only Q2) ?_
       refine WA.p (i := 16) Q0 Q6 Q6 Q6 Q0 (hs.only Q2) (fun w hs => Yl.pickT Q0 Q0) ?_
       refine WA.s (i := 17) Q6 Q0 (Yr.storeB hs Q0 Q0 Q0 Q5 Q3 Q0 (by exact szf54)) (by rintro _ w hs; exact hs.only Q2) ?_
       clear hs; rintro _ w hs
       refine WA.p (i := 18) Q0 Q6 Q6 Q6 Q0 (hs.only Q2) (fun w hs => Yl.assign Q0) ?_
       refine WA.donen Q6 ?_
       refine WC.ret ?_
       refine At.blockret ?_
       refine At.thenret ?_
       refine At.thenret ?_
       refine At.blockret ?_
       refine At.thenret ?_
       refine fin2c rfl agg54 Q0 Q0 hs Q1 Q0 ?_
       refine RetP.mk hs ?_
       first
        | (have ho : opOf s = 0 := opOf_none (fun j a b => hJ2 j a Q7)
           simp only [specLine, lineIs, ho]; rfl)
        | (obtain ⟨e, e3⟩ := specLine_hit hJ1 Q7 h3 hJ2
           rw [e, e3]
           clear e e3 h3 hJ2 hd hpl hs
           generalize (s.drop (opPre (k : Int)).length).take (s.length - (opPre (k : Int)).length) = tx at *
           refine congrArg (fun b => Value.tuple #[.agg (Ph.enc (⟨(k : Int), tx⟩ : TLine)).toArray, Bo b]) ?_
           clear hwl h2 h1 hJ1
           simp only [lineGood]
           first
             | (simp_all; done)
             | (simp_all; omega))
      ·
       replace h6 := of_decide_eq_false h6
       refine WA.pg (i := 9) (d := 53) Q0 Q6 Q6 Q6 Q0 Q0 Q0 (hs.only Q2) (fun w hs => Yl.move Q0) ?_
       refine WA.pg (i := 10) (d := 53) Q0 Q6 Q6 Q6 Q0 Q0 Q0 (hs.only Q2) (fun w hs => Yl.not Q0) ?_
       refine WA.pg (i := 11) (d := 53) Q0 Q6 Q6 Q6 Q0 Q0 Q0 (hs.only Q2) (fun w hs => Yl.move Q0) ?_
       refine WA.split (d := 56) Q0 (fun h7 => ?_) (fun h7 => ?_)
       ·
        replace h7 := not_eq_true h7
        replace h7 := of_decide_eq_false h7
        refine WA.pg (i := 12) (d := 56) Q0 Q6 Q6 Q6 Q0 Q0 Q0 (hs.only Q2) (fun w hs => Yl.fieldAddr fa54_1 Q0) ?_
        refine WA.pg (i := 13) (d := 56) Q0 Q6 Q6 Q6 Q0 Q0 Q0 (hs.only Q2) (fun w hs => Yl.loadB sca9 Q0 hs Q1 Q0) ?_
        refine WA.callp2g (i := 14) (d := 56) hs (fun _ hs => hs.only Q2) Q6 Q0 Q0 Q0 Q0 (Yc.func Q0 fn37) (c_spec_IsName _ _ (by first | assumption | (refine Ph.old ?_ hs; assumption) | (show WfS _; unfold WfS; simp only [List.length_take, List.length_drop]; omega))) ?_
        clear hs; intro w hs
        refine WA.pg (i := 15) (d := 53) Q0 Q6 Q6 Q6 Q0 Q0 Q0 (hs.only Q2) (fun w hs => Yl.pickT Q0 Q0) ?_
        refine WA.p (i := 16) Q0 Q6 Q6 Q6 Q0 (hs.only Q2) (fun w hs => Yl.pickF Q0 Q0) ?_
        refine WA.s (i := 17) Q6 Q0 (Yr.storeB hs Q0 Q0 Q0 Q5 Q3 Q0 (by exact szf54)) (by rintro _ w hs; exact hs.only Q2) ?_
        clear hs; rintro _ w hs
        refine WA.p (i := 18) Q0 Q6 Q6 Q6 Q0 (hs.only Q2) (fun w hs => Yl.assign Q0) ?_
        refine WA.donen Q6 ?_
        refine WC.ret ?_
        refine At.blockret ?_
        refine At.thenret ?_
        refine At.thenret ?_
        refine At.blockret ?_
        refine At.thenret ?_
        refine fin2c rfl agg54 Q0 Q0 hs Q1 Q0 ?_
        refine RetP.mk hs ?_
        first
         | (have ho : opOf s = 0 := opOf_none (fun j a b => hJ2 j a Q7)
            simp only [specLine, lineIs, ho]; rfl)
         | (obtain ⟨e, e3⟩ := specLine_hit hJ1 Q7 h3 hJ2
            rw [e, e3]
            clear e e3 h3 hJ2 hd hpl hs
            generalize (s.drop (opPre (k : Int)).length).take (s.length - (opPre (k : Int)).length) = tx at *
            refine congrArg (fun b => Value.tuple #[.agg (Ph.enc (⟨(k : Int), tx⟩ : TLine)).toArray, Bo b]) ?_
            clear hwl h2 h1 hJ1
            simp only [lineGood]
            first
              | (simp_all; done)
              | (simp_all; omega))
       ·
        replace h7 := not_eq_false h7
        replace h7 := of_decide_eq_true h7
        refine WA.skip (i := 12) (d := 56) Q0 Q6 Q6 Q6 Q0 Q0 Q0 Q0 (hs.only Q2) ?_
        refine WA.skip (i := 13) (d := 56) Q0 Q6 Q6 Q6 Q0 Q0 Q0 Q0 (hs.only Q2) ?_
        refine WA.skip (i := 14) (d := 56) Q0 Q6 Q6 Q6 Q0 Q0 Q0 Q0 (hs.only Q2) ?_
        refine WA.pg (i := 15) (d := 53) Q0 Q6 Q6 Q6 Q0 Q0 Q0 (hs.only Q2) (fun w hs => Yl.pickF Q0 Q0) ?_
        refine WA.p (i := 16) Q0 Q6 Q6 Q6 Q0 (hs.only Q2) (fun w hs => Yl.pickF Q0 Q0) ?_
        refine WA.s (i := 17) Q6 Q0 (Yr.storeB hs Q0 Q0 Q0 Q5 Q3 Q0 (by exact szf54)) (by rintro _ w hs; exact hs.only Q2) ?_
        clear hs; rintro _ w hs
        refine WA.p (i := 18) Q0 Q6 Q6 Q6 Q0 (hs.only Q2) (fun w hs => Yl.assign Q0) ?_
        refine WA.donen Q6 ?_
        refine WC.ret ?_
        refine At.blockret ?_
        refine At.thenret ?_
        refine At.thenret ?_
        refine At.blockret ?_
        refine At.thenret ?_
        refine fin2c rfl agg54 Q0 Q0 hs Q1 Q0 ?_
        refine RetP.mk hs ?_
        first
         | (have ho : opOf s = 0 := opOf_none (fun j a b => hJ2 j a Q7)
            simp only [specLine, lineIs, ho]; rfl)
         | (obtain ⟨e, e3⟩ := specLine_hit hJ1 Q7 h3 hJ2
            rw [e, e3]
            clear e e3 h3 hJ2 hd hpl hs
            generalize (s.drop (opPre (k : Int)).length).take (s.length - (opPre (k : Int)).length) = tx at *
            refine congrArg (fun b => Value.tuple #[.agg (Ph.enc (⟨(k : Int), tx⟩ : TLine)).toArray, Bo b]) ?_
            clear hwl h2 h1 hJ1
            simp only [lineGood]
            first
              | (simp_all; done)
              | (simp_all; omega))
     ·
      replace h5 := of_decide_eq_false h5
      refine WA.skip (i := 3) (d := 47) Q0 Q6 Q6 Q6 Q0 Q0 Q0 Q0 (hs.only Q2) ?_
      refine WA.skip (i := 4) (d := 47) Q0 Q6 Q6 Q6 Q0 Q0 Q0 Q0 (hs.only Q2) ?_
      refine WA.skip (i := 5) (d := 47) Q0 Q6 Q6 Q6 Q0 Q0 Q0 Q0 (hs.only Q2) ?_
      refine WA.skip (i := 6) (d := 47) Q0 Q6 Q6 Q6 Q0 Q0 Q0 Q0 (hs.only Q2) ?_
      refine WA.p (i := 7) Q0 Q6 Q6 Q6 Q0 (hs.only Q2) (fun w hs => Yl.pickF Q0 Q0) ?_
      refine WA.p (i := 8) Q0 Q6 Q6 Q6 Q0 (hs.only Q2) (fun w hs => Yl.move Q0) ?_
      refine WA.pg (i := 9) (d := 53) Q0 Q6 Q6 Q6 Q0 Q0 Q0 (hs.only Q2) (fun w hs => Yl.move Q0) ?_
      refine WA.pg (i := 10) (d := 53) Q0 Q6 Q6 Q6 Q0 Q0 Q0 (hs.only Q2) (fun w hs => Yl.not Q0) ?_
      refine WA.pg (i := 11) (d := 53) Q0 Q6 Q6 Q6 Q0 Q0 Q0 (hs.only Q2) (fun w hs => Yl.move Q0) ?_
      refine WA.split (d := 56) Q0 (fun h6 => ?_) (fun h6 => ?_)
      ·
       replace h6 := not_eq_true h6
       replace h6 := of_decide_eq_false h6
       refine WA.pg (i := 12) (d := 56) Q0 Q6 Q6 Q6 Q0 Q0 Q0 (hs.only Q2) (fun w hs => Yl.fieldAddr fa54_1 Q0) ?_
       refine WA.pg (i := 13) (d := 56) Q0 Q6 Q6 Q6 Q0 Q0 Q0 (hs.only Q2) (fun w hs => Yl.loadB sca9 Q0 hs Q1 Q0) ?_
       refine WA.callp2g (i := 14) (d := 56) hs (fun _ hs => hs.only Q2) Q6 Q0 Q0 Q0 Q0 (Yc.func Q0 fn37) (c_spec_IsName _ _ (by first | assumption | (refine Ph.old ?_ hs; assumption) | (show WfS _; unfold WfS; simp only [List.length_take, List.length_drop]; omega))) ?_
       clear hs; intro w hs
       refine WA.pg (i := 15) (d := 53) Q0 Q6 Q6 Q6 Q0 Q0 Q0 (hs.only Q2) (fun w hs => Yl.pickT Q0 Q0) ?_
       refine WA.p (i := 16) Q0 Q6 Q6 Q6 Q0 (hs.only Q2) (fun w hs => Yl.pickF Q0 Q0) ?_
       refine WA.s (i := 17) Q6 Q0 (Yr.storeB hs Q0 Q0 Q0 Q5 Q3 Q0 (by exact szf54)) (by rintro _ w hs; exact hs.only Q2) ?_
       clear hs; rintro _ w hs
       refine WA.p (i := 18) Q0 Q6 Q6 Q6 Q0 (hs.only Q2) (fun w hs => Yl.assign Q0) ?_
       refine WA.donen Q6 ?_
       refine WC.ret ?_
       refine At.blockret ?_
       refine At.thenret ?_
       refine At.thenret ?_
       refine At.blockret ?_
       refine At.thenret ?_
       refine fin2c rfl agg54 Q0 Q0 hs Q1 Q0 ?_
       refine RetP.mk hs ?_
       first
        | (have ho : opOf s = 0 := opOf_none (fun j a b => hJ2 j a Q7)
           simp only [specLine, lineIs, ho]; rfl)
        | (obtain ⟨e, e3⟩ := specLine_hit hJ1 Q7 h3 hJ2
           rw [e, e3]
           clear e e3 h3 hJ2 hd hpl hs
           generalize (s.drop (opPre (k : Int)).length).take (s.length - (opPre (k : Int)).length) = tx at *
           refine congrArg (fun b => Value.tuple #[.agg (Ph.enc (⟨(k : Int), tx⟩ : TLine)).toArray, Bo b]) ?_
           clear hwl h2 h1 hJ1
           simp only [lineGood]
           first
             | (simp_all; done)
             | (simp_all; omega))
      ·
       replace h6 := not_eq_false h6
       replace h6 := of_decide_eq_true h6
       refine WA.skip (i := 12) (d := 56) Q0 Q6 Q6 Q6 Q0 Q0 Q0 Q0 (hs.only Q2) ?_
       refine WA.skip (i := 13) (d := 56) Q0 Q6 Q6 Q6 Q0 Q0 Q0 Q0 (hs.only Q2) ?_
       refine WA.skip (i := 14) (d := 56) Q0 Q6 Q6 Q6 Q0 Q0 Q0 Q0 (hs.only Q2) ?_
       refine WA.pg (i := 15) (d := 53) Q0 Q6 Q6 Q6 Q0 Q0 Q0 (hs.only Q2) (fun w hs => Yl.pickF Q0 Q0) ?_
       refine WA.p (i := 16) Q0 Q6 Q6 Q6 Q0 (hs.only Q2) (fun w hs => Yl.pickF Q0 Q0) ?_
       refine WA.s (i := 17) Q6 Q0 (Yr.storeB hs Q0 Q0 Q0 Q5 Q3 Q0 (by exact szf54)) (by rintro _ w hs; exact hs.only Q2) ?_
       clear hs; rintro _ w hs
       refine WA.p (i := 18) Q0 Q6 Q6 Q6 Q0 (hs.only Q2) (fun w hs => Yl.assign Q0) ?_
       refine WA.donen Q6 ?_
       refine WC.ret ?_
       refine At.blockret ?_
       refine At.thenret ?_
       refine At.thenret ?_
       refine At.blockret ?_
       refine At.thenret ?_
       refine fin2c rfl agg54 Q0 Q0 hs Q1 Q0 ?_
       refine RetP.mk hs ?_
       first
        | (have ho : opOf s = 0 := opOf_none (fun j a b => hJ2 j a Q7)
           simp only [specLine, lineIs, ho]; rfl)
        | (obtain ⟨e, e3⟩ := specLine_hit hJ1 Q7 h3 hJ2
           rw [e, e3]
           clear e e3 h3 hJ2 hd hpl hs
           generalize (s.drop (opPre (k : Int)).length).take (s.length - (opPre (k : Int)).length) = tx at *
           refine congrArg (fun b => Value.tuple #[.agg (Ph.enc (⟨(k : Int), tx⟩ : TLine)).toArray, Bo b]) ?_
           clear hwl h2 h1 hJ1
           simp only [lineGood]
           first
             | (simp_all; done)
             | (simp_all; omega))
   ·
    replace h3 := of_decide_eq_false h3
    refine WC.skip ?_
    refine At.blocknormal ?_
    refine At.then_ ?_
    refine WC.region ?_
    refine Qm ?_
    refine WL.p Q0 (Yl.add Q0 Q0 Q7) ?_
    refine Qa ?_
    refine WL.nil ?_
    refine At.roundC (k + 1) (hs.only Q2) ⟨by rfl, by rfl, by rfl, trivial⟩ ⟨by rfl, trivial⟩ ?_ ?_
    ·
     show 6 - (k + 1) < 6 - k
     omega
    ·
     refine ⟨by omega, fun j a b => ?_⟩
     by_cases hjk : j = (k : Int)
     · subst hjk
       cases hp : (opPre (k : Int)).isPrefixOf s with
       | false => rfl
       | true =>
        exfalso
        rw [List.isPrefixOf_iff_prefix] at hp
        have hp1 := hp.length_le
        have hp2 := List.prefix_iff_eq_take.1 hp
        first
         | omega
         | exact h3 (by simpa using hp2.symm)
     · exact hJ2 j a Q7
  ·
   replace h2 := of_decide_eq_false h2
   refine WL.skip (d := 25) Q0 Q0 Q0 Q0 ?_
   refine WL.skip (d := 25) Q0 Q0 Q0 Q0 ?_
   refine WL.skip (d := 25) Q0 Q0 Q0 Q0 ?_
   refine WL.skip (d := 25) Q0 Q0 Q0 Q0 ?_
   refine WL.skip (d := 25) Q0 Q0 Q0 Q0 ?_
   refine WL.skip (d := 25) Q0 Q0 Q0 Q0 ?_
   refine WL.p Q0 (Yl.pickF Q0 Q0) ?_
   refine WL.next ?_
   refine WC.condF Q0 ?_
   refine WC.skip ?_
   refine At.blocknormal ?_
   refine At.then_ ?_
   refine WC.region ?_
   refine Qm ?_
   refine WL.p Q0 (Yl.add Q0 Q0 Q7) ?_
   refine Qa ?_
   refine WL.nil ?_
   refine At.roundC (k + 1) (hs.only Q2) ⟨by rfl, by rfl, by rfl, trivial⟩ ⟨by rfl, trivial⟩ ?_ ?_
   ·
    show 6 - (k + 1) < 6 - k
    omega
   ·
    refine ⟨by omega, fun j a b => ?_⟩
    by_cases hjk : j = (k : Int)
    · subst hjk
      cases hp : (opPre (k : Int)).isPrefixOf s with
      | false => rfl
      | true =>
       exfalso
       rw [List.isPrefixOf_iff_prefix] at hp
       have hp1 := hp.length_le
       have hp2 := List.prefix_iff_eq_take.1 hp
       first
        | omega
        | exact h3 (by simpa using hp2.symm)
    · exact hJ2 j a Q7
 ·
  replace h1 := of_decide_eq_false h1
  refine WC.exit ?_
  refine At.thenexit ?_
  refine At.thenexit ?_
  refine At.blockexit ?_
  refine At.then_ ?_
  refine WC.seq ?_
  refine WL.p Q0 (Yl.build bt54 Q0 Q4) ?_
  refine WL.s (Yr.storeB hs Q0 Q0 Q0 Q5 Q3 Q0 (by exact szf54)) ?_
  clear hs; rintro _ w hs
  refine Qa ?_
  refine WL.next ?_
  refine WC.ret ?_
  refine fin2c rfl agg54 Q0 Q0 hs Q1 Q0 ?_
  refine RetP.mk hs ?_
  first
   | (have ho : opOf s = 0 := opOf_none (fun j a b => hJ2 j a Q7)
      simp only [specLine, lineIs, ho]; rfl)
   | (obtain ⟨e, e3⟩ := specLine_hit hJ1 Q7 h3 hJ2
      rw [e, e3]
      clear e e3 h3 hJ2 hd hpl hs
      generalize (s.drop (opPre (k : Int)).length).take (s.length - (opPre (k : Int)).length) = tx at *
      refine congrArg (fun b => Value.tuple #[.agg (Ph.enc (⟨(k : Int), tx⟩ : TLine)).toArray, Bo b]) ?_
      clear hwl h2 h1 hJ1
      simp only [lineGood]
      first
        | (simp_all; done)
        | (simp_all; omega))

theorem c_spec_ParseScript (s : Str) (w : World)  (hb : s.length ≤ 2097152) : Calls Tryz.prog 73 [S s].toArray w (Ret w (fun v w' => ∃ x : Sl TLine, v = .tuple #[x.v, Bo (scriptIs s)] ∧ x.l = scriptLines s ∧ Fresh w x w')) := by
 refine enterN 42 Tryz.func73 rfl rfl rfl ?_
 have hs := Sat.start w
 refine WC.seq ?_
 refine Qa ?_
 refine Qa ?_
 refine WL.next ?_
 refine WC.seq ?_
 refine WL.r Q0 (Yr.buildSlice hs sll45 Q0 Q0 Q0 Q4 Q0) ?_
 clear hs; rintro _ w ⟨b1, rfl, hb, hs⟩; clear hb
 refine Qa ?_
 refine WL.next ?_
 refine WC.seq' ?_
 refine WC.seq ?_
 refine Qm ?_
 refine WL.p Q0 (Yl.eqs Q0 Q0) ?_
 refine WL.next ?_
 refine WC.condS Q0 (fun h1 => ?_) (fun h1 => ?_)
 ·
  replace h1 := of_decide_eq_true h1
  refine WC.seq ?_
  refine Qm ?_
  refine Qa ?_
  refine Qa ?_
  refine WL.next ?_
  refine WC.ret ?_
  refine At.thenret ?_
  refine fin2' rfl Q0 Q0 ?_
  refine Ret.mk hs ?_
  replace hs := Sat.boxow (l := ([] : List TLine)) (hs.sel (D := [box b1 _ _]) Q2) rfl rfl (by simp) (ownL_mk_flat (by simp))
  first
   | exact ⟨⟨[], some ⟨b1, 0, none⟩, 0⟩, by rw [scriptIs_nil h1]; rfl, (scriptLines_nil h1).symm, hs.fresh List.mem_cons_self⟩
   | (replace hx2 : x2.l = splitC 59 s := hx2
      have hb9 : scriptIs s = false := by
        cases hld : lineIs d with
        | false => exact scriptIs_bad h1 (k := k) (d := d) (by rw [← hx2]; exact hd) hld
        | true =>
          refine scriptIs_long h1 ?_
          rw [← hx2]
          first
            | omega
            | (exfalso; simp_all; done)
      exact ⟨⟨[], some ⟨b1, 0, none⟩, 0⟩, by rw [hb9]; rfl, (scriptLines_bad hb9).symm, hs.fresh List.mem_cons_self⟩)
 ·
  replace h1 := of_decide_eq_false h1
  refine WC.skipn ?_
  refine WC.seq ?_
  refine Qm ?_
  refine WL.call hs Q0 (Yc.func Q0 fn36) (c_spec_l5Split _ 59 _ (by first | assumption | omega | (simp only [lsz] at *; omega) | (simp only [lsz, strsz, TPolicy.size, TCache.size, TAddr.size, TRequest.size, TEntry.size, TResponse.size, TLine.size] at *; omega) | (simp only [lsz_map, TPage.size, TBuilder.size, TNode.size, TToken.size, TTokenizer.size, TServer.size, TFile.size, TNet.size, TCache.size, TSheet.size, strsz] at *; omega) | (simp only [lsz_map, TPage.size, TBuilder.size, TNode.size, TToken.size, TTokenizer.size, TServer.size, TFile.size, TNet.size, TCache.size, TSheet.size, strsz, lsz] at *; omega))) ?_
  have hs0 := hs; clear hs; intro v w hb hR hs; clear hs
  obtain ⟨x2, rfl, hx2, hf2⟩ := hR
  obtain ⟨F2, hs⟩ := hf2.sat hs0 hb; clear hs0 hf2
  have hle2 := Sl.Ok.le (hs.okow (x := x2) (F := F2) Q1)
  refine Qa ?_
  refine WL.next ?_
  refine WC.seq' ?_
  refine WC.seq ?_
  refine Qa ?_
  refine WL.next ?_
  refine WC.block ?_
  replace hs := Sat.boxow (l := ([] : List TLine)) (hs.sel (D := [box b1 _ _]) Q2) rfl rfl (by simp) (ownL_mk_flat (by simp))
  refine WC.loopC (ι := Nat × Sl TLine × List Nat) (fun ⟨k, q, F⟩ => x2.l.length - k) (fun ⟨k, q, F⟩ => [(6, I (k : Int)), (4, q.v)]) (fun ⟨k, q, F⟩ => [ow q F, ow x2 F2]) (fun ⟨k, q, F⟩ => k ≤ x2.l.length ∧ q.l = (x2.l.take k).map specLine ∧ (x2.l.take k).all lineIs = true ∧ (0 < k → x2.l.length ≤ 6)) [(0, _), (5, _), (11, _)] (0, ⟨[], some ⟨b1, 0, none⟩, 0⟩, [b1]) (hs.sel (D := [ow (⟨[], some ⟨b1, 0, none⟩, 0⟩ : Sl TLine) [b1], ow x2 F2]) Q2) ⟨by rfl, by rfl, by rfl, trivial⟩ ⟨by rfl, by rfl, trivial⟩ ?_ ?_
  ·
   exact ⟨Nat.zero_le _, rfl, rfl, fun h => absurd h Q7⟩
  clear hs; rintro ⟨k, q, F⟩ w ⟨hJ1, hJ2, hJ3, hJ4⟩ hs
  simp only [List.cons_append, List.nil_append] at hs
  have hxl : x2.l.length ≤ s.length + 1 := by rw [hx2]; exact splitC_len _ _
  refine WC.seq' ?_
  refine WC.seq ?_
  refine Qm ?_
  refine Qm ?_
  refine WL.p Q0 (Yl.len_sl slu48 Q0) ?_
  refine WL.p Q0 (Yl.lss Q0 Q0) ?_
  refine WL.next ?_
  refine WC.condS Q0 (fun h2 => ?_) (fun h2 => ?_)
  ·
   replace h2 := of_decide_eq_true h2
   obtain ⟨d, hd⟩ := exists_get (l := x2.l) (k := k) Q7
   have hdl : d.length ≤ s.length := splitC_mem_le (b := 59) (by rw [← hx2]; exact List.mem_of_getElem? hd)
   refine WC.skipn ?_
   refine WC.seq' ?_
   refine WC.block ?_
   refine WC.seq ?_
   refine Qm ?_
   refine Qm ?_
   refine WL.p Q0 (Yl.indexAddr slt48 Q0 Q0 (hs.okow (x := x2) (F := F2) Q1) Q0 (hd)) ?_
   refine WL.p Q0 (Yl.loadC0 sca9 Q0 (Sl.Ok.at_ (hs.okow (x := x2) (F := F2) Q1) (by assumption)).2 Q0) ?_
   refine WL.callp hs Q0 (Yc.func Q0 fn105) (c_spec_l8Line _ _ (Sl.Ok.elem (hs.okow (x := x2) (F := F2) Q1) hd) Q7) ?_
   clear hs; intro w hs
   refine Qm ?_
   refine WL.p Q0 (Yl.extract Q0 Q0) ?_
   refine WL.p Q0 (Yl.extract Q0 Q0) ?_
   refine WL.r Q0 (Yr.alloc hs zt54) ?_
   clear hs; rintro _ w ⟨b3, rfl, hb, hs⟩; clear hb
   refine WL.s (Yr.storeB hs Q0 Q0 Q0 Q5 Q3 Q0 (by exact szf54)) ?_
   clear hs; rintro _ w hs
   refine Qa ?_
   refine WL.next ?_
   refine WC.seq' ?_
   refine WC.seq ?_
   refine Qm ?_
   refine WL.p Q0 (Yl.not Q0) ?_
   refine Qm ?_
   refine WL.split (d := 31) Q0 (fun h3 => ?_) (fun h3 => ?_)
   ·
    replace h3 := not_eq_true h3
    refine WL.skip (d := 31) Q0 Q0 Q0 Q0 ?_
    refine WL.skip (d := 31) Q0 Q0 Q0 Q0 ?_
    refine WL.skip (d := 31) Q0 Q0 Q0 Q0 ?_
    refine WL.p Q0 (Yl.pickT Q0 Q0) ?_
    refine WL.next ?_
    refine WC.condT Q0 ?_
    refine WC.seq ?_
    refine WL.r Q0 (Yr.buildSlice hs sll45 Q0 Q0 Q0 Q4 Q0) ?_
    clear hs; rintro _ w ⟨b4, rfl, hb, hs⟩; clear hb
    refine Qa ?_
    refine Qa ?_
    refine WL.next ?_
    refine WC.ret ?_
    refine At.thenret ?_
    refine At.blockret ?_
    refine At.thenret ?_
    refine At.thenret ?_
    refine At.blockret ?_
    refine At.thenret ?_
    refine fin2' rfl Q0 Q0 ?_
    refine Ret.mk hs ?_
    replace hs := Sat.boxow (l := ([] : List TLine)) (hs.sel (D := [box b4 _ _]) Q2) rfl rfl (by simp) (ownL_mk_flat (by simp))
    first
     | exact ⟨⟨[], some ⟨b4, 0, none⟩, 0⟩, by rw [scriptIs_nil h1]; rfl, (scriptLines_nil h1).symm, hs.fresh List.mem_cons_self⟩
     | (replace hx2 : x2.l = splitC 59 s := hx2
        have hb9 : scriptIs s = false := by
          cases hld : lineIs d with
          | false => exact scriptIs_bad h1 (k := k) (d := d) (by rw [← hx2]; exact hd) hld
          | true =>
            refine scriptIs_long h1 ?_
            rw [← hx2]
            first
              | omega
              | (exfalso; simp_all; done)
        exact ⟨⟨[], some ⟨b4, 0, none⟩, 0⟩, by rw [hb9]; rfl, (scriptLines_bad hb9).symm, hs.fresh List.mem_cons_self⟩)
   ·
    replace h3 := not_eq_false h3
    refine WL.run (d := 31) Q0 Q0 ?_
    refine Qm ?_
    refine WL.run (d := 31) Q0 Q0 ?_
    refine WL.p Q0 (Yl.len_sl slu48 Q0) ?_
    refine WL.run (d := 31) Q0 Q0 ?_
    refine WL.p Q0 (Yl.gtr Q0 Q0) ?_
    refine WL.p Q0 (Yl.pickF Q0 Q0) ?_
    refine WL.next ?_
    refine WC.condS Q0 (fun h4 => ?_) (fun h4 => ?_)
    ·
     replace h4 := of_decide_eq_true h4
     refine WC.seq ?_
     refine WL.r Q0 (Yr.buildSlice hs sll45 Q0 Q0 Q0 Q4 Q0) ?_
     clear hs; rintro _ w ⟨b5, rfl, hb, hs⟩; clear hb
     refine Qa ?_
     refine Qa ?_
     refine WL.next ?_
     refine WC.ret ?_
     refine At.thenret ?_
     refine At.blockret ?_
     refine At.thenret ?_
     refine At.thenret ?_
     refine At.blockret ?_
     refine At.thenret ?_
     refine fin2' rfl Q0 Q0 ?_
     refine Ret.mk hs ?_
     replace hs := Sat.boxow (l := ([] : List TLine)) (hs.sel (D := [box b5 _ _]) Q2) rfl rfl (by simp) (ownL_mk_flat (by simp))
     first
      | exact ⟨⟨[], some ⟨b5, 0, none⟩, 0⟩, by rw [scriptIs_nil h1]; rfl, (scriptLines_nil h1).symm, hs.fresh List.mem_cons_self⟩
      | (replace hx2 : x2.l = splitC 59 s := hx2
         have hb9 : scriptIs s = false := by
           cases hld : lineIs d with
           | false => exact scriptIs_bad h1 (k := k) (d := d) (by rw [← hx2]; exact hd) hld
           | true =>
             refine scriptIs_long h1 ?_
             rw [← hx2]
             first
               | omega
               | (exfalso; simp_all; done)
         exact ⟨⟨[], some ⟨b5, 0, none⟩, 0⟩, by rw [hb9]; rfl, (scriptLines_bad hb9).symm, hs.fresh List.mem_cons_self⟩)
    ·
     replace h4 := of_decide_eq_false h4
     refine WC.skipn ?_
     refine WC.region ?_
     refine Qm ?_
     refine WL.p Q0 (Yl.loadAB agg54 Q0 hs Q1 Q0 Q0) ?_
     refine WL.r Q0 (Yr.buildSlice hs sll45 Q0 Q0 Q0 Q4 Q0) ?_
     clear hs; rintro _ w ⟨b6, rfl, hb, hs⟩; clear hb
     refine WL.r Q0 (Yr.append (s := q) (F := F) hs elt45 Q2 Q0 Q0 rfl (xs := [specLine d]) (hs.box_cells Q1) (by intro x hx; obtain rfl := List.mem_singleton.1 hx; exact specLine_ok Q7) (by rw [hJ2]; simp; unfold maxLen; omega) (by rw [hJ2]; simp; omega)) ?_
     clear hs; rintro _ w ⟨s7, F7, rfl, hl7, hs⟩
     refine Qa ?_
     refine WL.nil ?_
     refine At.blocknormal ?_
     refine At.then_ ?_
     refine WC.region ?_
     refine Qm ?_
     refine WL.p Q0 (Yl.add Q0 Q0 Q7) ?_
     refine Qa ?_
     refine WL.nil ?_
     refine At.roundC (k + 1, s7, F7) (hs.only Q2) ⟨by rfl, by rfl, by rfl, trivial⟩ ⟨by rfl, by rfl, trivial⟩ ?_ ?_
     ·
      show x2.l.length - (k + 1) < x2.l.length - k
      omega
     ·
      exact ⟨by omega, by rw [hl7, hJ2]; exact map_step hd, all_step hd hJ3 (by simp_all), fun _ => by omega⟩
  ·
   replace h2 := of_decide_eq_false h2
   refine WC.exit ?_
   refine At.thenexit ?_
   refine At.thenexit ?_
   refine At.blockexit ?_
   refine At.then_ ?_
   refine WC.seq ?_
   refine Qm ?_
   refine Qa ?_
   refine Qa ?_
   refine WL.next ?_
   refine WC.ret ?_
   refine fin2' rfl Q0 Q0 ?_
   refine Ret.mk hs ?_
   replace hx2 : x2.l = splitC 59 s := hx2
   have hk : k = x2.l.length := by omega
   have hne : 0 < (splitC 59 s).length := List.length_pos_iff.2 (splitC_ne 59 s)
   rw [hk, List.take_length] at hJ2 hJ3
   rw [hx2] at hJ2 hJ3
   have hg9 : scriptIs s = true := scriptIs_good hJ3 (by first | (rw [← hx2]; exact hJ4 (by rw [hk, hx2]; exact hne)) | (rw [← hx2, ← hk]; exact hJ4))
   exact ⟨q, by rw [hg9], by rw [scriptLines_good h1 hg9, hJ2], hs.fresh Q1⟩

theorem c_spec_l8Text (c : Nat) (b_ : Sl UInt8) (most : Int) (w : World)  (hm : 1 ≤ most ∧ most ≤ 5) (h_c : CurAt 93 b_ c w) (hb_c : CurB w b_ c) : Calls Tryz.prog 74 [bp c 0, I most].toArray w (RetD 93 b_ c w (fun v w' => ∃ (x : Str), v = S x ∧ (Ph.ok w' x) ∧ (x.length ≤ 26 * most.toNat ∧ scriptIs x = true ∧ x ≠ [] ∧ 0 < (scriptLines x).length) ∧ True)) := by
 refine enterN 25 Tryz.func74 rfl rfl rfl ?_
 have hs := Sat.startC h_c
 refine WC.seq ?_
 refine Qa ?_
 refine WL.next ?_
 refine WC.seq ?_
 refine Qa ?_
 refine WL.next ?_
 refine WC.seq' ?_
 refine WC.seq ?_
 refine Qm ?_
 refine Qm ?_
 refine WL.calld hs (T := 93) (b := b_) (c := c) Q2 Q0 (Yc.func Q0 fn46) (c_spec_l1Below c b_ _ _ (hs.cur Q1) (Apart.now hb_c hs)) ?_
 clear hs; intro v w ho hR hs
 obtain ⟨x1, rfl, hokx1, hx1, hf1⟩ := hR
 clear ho hf1
 refine WL.p Q0 (Yl.add Q0 Q0 Q7) ?_
 refine Qa ?_
 refine WL.next ?_
 refine WC.block ?_
 refine WC.loopC (ι := Int × Str) (fun ⟨m, t⟩ => m.toNat) (fun ⟨m, t⟩ => [(5, S t), (6, I m)]) (fun _ => []) (fun ⟨m, t⟩ => 0 ≤ m ∧ m ≤ 1 + x1 ∧ (t.length : Int) ≤ (1 + x1 - m) * 26 ∧ DrawnScript t (1 + x1 - m).toNat) [(0, _), (1, _), (4, _)] (_, []) (hs) ⟨by rfl, by rfl, by rfl, trivial⟩ ⟨by rfl, by rfl, trivial⟩ ?_ ?_
 ·
  refine ⟨by omega, by omega, ?_, ?_⟩
  · simp only [List.length_nil]; omega
  · rw [show (1 + x1 - (1 + x1)).toNat = 0 from by omega]; exact ⟨.inl ⟨rfl, rfl⟩⟩
 clear hs; rintro ⟨m, t⟩ w ⟨hJ1, hJ2, hJ3, hJ4⟩ hs
 simp only [List.nil_append] at hs
 refine WC.seq' ?_
 refine WC.seq ?_
 refine Qm ?_
 refine WL.p Q0 (Yl.gtr Q0 Q0) ?_
 refine WL.next ?_
 refine WC.condS Q0 (fun h1 => ?_) (fun h1 => ?_)
 ·
  replace h1 := of_decide_eq_true h1
  have hwt : t.length ≤ 9223372036854775807 := by omega
  refine WC.skipn ?_
  refine WC.seq' ?_
  refine WC.block ?_
  refine WC.seq' ?_
  refine WC.seq ?_
  refine Qm ?_
  refine WL.p Q0 (Yl.nes Q0 Q0) ?_
  refine WL.next ?_
  refine WC.condS Q0 (fun h2 => ?_) (fun h2 => ?_)
  ·
   replace h2 := not_eq_true h2
   replace h2 := of_decide_eq_false h2
   refine WC.region ?_
   refine Qm ?_
   refine WL.p Q0 (Yl.cat Q0 Q0 (by simp only [List.length_append, List.length_cons, List.length_nil] at *; omega)) ?_
   refine Qa ?_
   refine WL.nil ?_
   refine At.then_ ?_
   refine WC.region ?_
   refine Qm ?_
   refine Qm ?_
   refine WL.r Q0 (Yr.buildSlice hs sll48 Q0 Q0 Q0 Q4 Q0) ?_
   clear hs; rintro _ w ⟨b2, rfl, hb, hs⟩; clear hb
   replace hs := Sat.boxow (l := ([([115, 97, 121, 32, 104, 105] : Str), ([99, 111, 117, 110, 116, 32, 112] : Str), ([99, 111, 117, 110, 116, 32, 115, 99, 114, 105, 112, 116] : Str), ([108, 111, 111, 107, 32, 112] : Str), ([108, 111, 111, 107, 32, 98] : Str), ([97, 100, 100, 32, 98] : Str), ([97, 100, 100, 32, 112] : Str), ([119, 114, 105, 116, 101, 32, 91, 112, 93, 120, 91, 47, 112, 93] : Str), ([119, 114, 105, 116, 101, 32, 91, 105, 109, 103, 32, 115, 114, 99, 61, 108, 111, 103, 111, 93] : Str), ([119, 114, 105, 116, 101, 32, 91, 108, 105, 110, 107, 32, 104, 114, 101, 102, 61, 115, 116, 121, 108, 101, 93] : Str), ([119, 114, 105, 116, 101, 32, 91, 98, 93] : Str)] : List Str)) (hs.sel (D := [box b2 _ _]) Q2) rfl rfl (by decide) (ownL_mk_flat (lit_str Q0))
   try simp only [List.cons_append, List.nil_append] at hs
   refine WL.calld hs (T := 93) (b := b_) (c := c) Q2 Q0 (Yc.func Q0 fn28) (c_spec_l1Str c b_ (⟨[([115, 97, 121, 32, 104, 105] : Str), ([99, 111, 117, 110, 116, 32, 112] : Str), ([99, 111, 117, 110, 116, 32, 115, 99, 114, 105, 112, 116] : Str), ([108, 111, 111, 107, 32, 112] : Str), ([108, 111, 111, 107, 32, 98] : Str), ([97, 100, 100, 32, 98] : Str), ([97, 100, 100, 32, 112] : Str), ([119, 114, 105, 116, 101, 32, 91, 112, 93, 120, 91, 47, 112, 93] : Str), ([119, 114, 105, 116, 101, 32, 91, 105, 109, 103, 32, 115, 114, 99, 61, 108, 111, 103, 111, 93] : Str), ([119, 114, 105, 116, 101, 32, 91, 108, 105, 110, 107, 32, 104, 114, 101, 102, 61, 115, 116, 121, 108, 101, 93] : Str), ([119, 114, 105, 116, 101, 32, 91, 98, 93] : Str)], some ⟨b2, 0, none⟩, 11⟩ : Sl Str) _ (Apart.own (s := (⟨[([115, 97, 121, 32, 104, 105] : Str), ([99, 111, 117, 110, 116, 32, 112] : Str), ([99, 111, 117, 110, 116, 32, 115, 99, 114, 105, 112, 116] : Str), ([108, 111, 111, 107, 32, 112] : Str), ([108, 111, 111, 107, 32, 98] : Str), ([97, 100, 100, 32, 98] : Str), ([97, 100, 100, 32, 112] : Str), ([119, 114, 105, 116, 101, 32, 91, 112, 93, 120, 91, 47, 112, 93] : Str), ([119, 114, 105, 116, 101, 32, 91, 105, 109, 103, 32, 115, 114, 99, 61, 108, 111, 103, 111, 93] : Str), ([119, 114, 105, 116, 101, 32, 91, 108, 105, 110, 107, 32, 104, 114, 101, 102, 61, 115, 116, 121, 108, 101, 93] : Str), ([119, 114, 105, 116, 101, 32, 91, 98, 93] : Str)], some ⟨b2, 0, none⟩, 11⟩ : Sl Str)) (F := [b2]) hs Q2) (by exact Nat.succ_pos _) (hs.cur Q1) (Apart.now hb_c hs)) ?_
   clear hs; intro v w ho hR hs
   obtain ⟨x3, rfl, hokx3, hx3, hf3⟩ := hR
   clear ho hf3
   replace hx3 : x3 ∈ ([([115, 97, 121, 32, 104, 105] : Str), ([99, 111, 117, 110, 116, 32, 112] : Str), ([99, 111, 117, 110, 116, 32, 115, 99, 114, 105, 112, 116] : Str), ([108, 111, 111, 107, 32, 112] : Str), ([108, 111, 111, 107, 32, 98] : Str), ([97, 100, 100, 32, 98] : Str), ([97, 100, 100, 32, 112] : Str), ([119, 114, 105, 116, 101, 32, 91, 112, 93, 120, 91, 47, 112, 93] : Str), ([119, 114, 105, 116, 101, 32, 91, 105, 109, 103, 32, 115, 114, 99, 61, 108, 111, 103, 111, 93] : Str), ([119, 114, 105, 116, 101, 32, 91, 108, 105, 110, 107, 32, 104, 114, 101, 102, 61, 115, 116, 121, 108, 101, 93] : Str), ([119, 114, 105, 116, 101, 32, 91, 98, 93] : Str)] : List Str) := hx3
   have hn3 := mem_len 23 hx3 Q0
   refine WL.p Q0 (Yl.cat Q0 Q0 (by simp only [List.length_append, List.length_cons, List.length_nil] at *; omega)) ?_
   refine Qa ?_
   refine WL.nil ?_
   refine At.blocknormal ?_
   refine At.then_ ?_
   refine WC.region ?_
   refine Qm ?_
   refine WL.p Q0 (Yl.sub_ Q0 Q0 Q7) ?_
   refine Qa ?_
   refine WL.nil ?_
   refine At.roundC (_, _) (hs.only Q2) ⟨by rfl, by rfl, by rfl, trivial⟩ ⟨by rfl, by rfl, trivial⟩ ?_ ?_
   ·
    show (m - 1).toNat < m.toNat
    omega
   ·
    refine ⟨by omega, by omega, ?_, ?_⟩
    · simp only [List.length_append, List.length_cons, List.length_nil] at *; omega
    · rw [show (1 + x1 - (m - 1)).toNat = (1 + x1 - m).toNat + 1 from by omega]; exact hJ4.next (by assumption) (show _ ∈ lines11 from hx3)
  ·
   replace h2 := not_eq_false h2
   replace h2 := of_decide_eq_true h2
   refine WC.skipn ?_
   refine WC.region ?_
   refine Qm ?_
   refine Qm ?_
   refine WL.r Q0 (Yr.buildSlice hs sll48 Q0 Q0 Q0 Q4 Q0) ?_
   clear hs; rintro _ w ⟨b4, rfl, hb, hs⟩; clear hb
   replace hs := Sat.boxow (l := ([([115, 97, 121, 32, 104, 105] : Str), ([99, 111, 117, 110, 116, 32, 112] : Str), ([99, 111, 117, 110, 116, 32, 115, 99, 114, 105, 112, 116] : Str), ([108, 111, 111, 107, 32, 112] : Str), ([108, 111, 111, 107, 32, 98] : Str), ([97, 100, 100, 32, 98] : Str), ([97, 100, 100, 32, 112] : Str), ([119, 114, 105, 116, 101, 32, 91, 112, 93, 120, 91, 47, 112, 93] : Str), ([119, 114, 105, 116, 101, 32, 91, 105, 109, 103, 32, 115, 114, 99, 61, 108, 111, 103, 111, 93] : Str), ([119, 114, 105, 116, 101, 32, 91, 108, 105, 110, 107, 32, 104, 114, 101, 102, 61, 115, 116, 121, 108, 101, 93] : Str), ([119, 114, 105, 116, 101, 32, 91, 98, 93] : Str)] : List Str)) (hs.sel (D := [box b4 _ _]) Q2) rfl rfl (by decide) (ownL_mk_flat (lit_str Q0))
   try simp only [List.cons_append, List.nil_append] at hs
   refine WL.calld hs (T := 93) (b := b_) (c := c) Q2 Q0 (Yc.func Q0 fn28) (c_spec_l1Str c b_ (⟨[([115, 97, 121, 32, 104, 105] : Str), ([99, 111, 117, 110, 116, 32, 112] : Str), ([99, 111, 117, 110, 116, 32, 115, 99, 114, 105, 112, 116] : Str), ([108, 111, 111, 107, 32, 112] : Str), ([108, 111, 111, 107, 32, 98] : Str), ([97, 100, 100, 32, 98] : Str), ([97, 100, 100, 32, 112] : Str), ([119, 114, 105, 116, 101, 32, 91, 112, 93, 120, 91, 47, 112, 93] : Str), ([119, 114, 105, 116, 101, 32, 91, 105, 109, 103, 32, 115, 114, 99, 61, 108, 111, 103, 111, 93] : Str), ([119, 114, 105, 116, 101, 32, 91, 108, 105, 110, 107, 32, 104, 114, 101, 102, 61, 115, 116, 121, 108, 101, 93] : Str), ([119, 114, 105, 116, 101, 32, 91, 98, 93] : Str)], some ⟨b4, 0, none⟩, 11⟩ : Sl Str) _ (Apart.own (s := (⟨[([115, 97, 121, 32, 104, 105] : Str), ([99, 111, 117, 110, 116, 32, 112] : Str), ([99, 111, 117, 110, 116, 32, 115, 99, 114, 105, 112, 116] : Str), ([108, 111, 111, 107, 32, 112] : Str), ([108, 111, 111, 107, 32, 98] : Str), ([97, 100, 100, 32, 98] : Str), ([97, 100, 100, 32, 112] : Str), ([119, 114, 105, 116, 101, 32, 91, 112, 93, 120, 91, 47, 112, 93] : Str), ([119, 114, 105, 116, 101, 32, 91, 105, 109, 103, 32, 115, 114, 99, 61, 108, 111, 103, 111, 93] : Str), ([119, 114, 105, 116, 101, 32, 91, 108, 105, 110, 107, 32, 104, 114, 101, 102, 61, 115, 116, 121, 108, 101, 93] : Str), ([119, 114, 105, 116, 101, 32, 91, 98, 93] : Str)], some ⟨b4, 0, none⟩, 11⟩ : Sl Str)) (F := [b4]) hs Q2) (by exact Nat.succ_pos _) (hs.cur Q1) (Apart.now hb_c hs)) ?_
   clear hs; intro v w ho hR hs
   obtain ⟨x5, rfl, hokx5, hx5, hf5⟩ := hR
   clear ho hf5
   replace hx5 : x5 ∈ ([([115, 97, 121, 32, 104, 105] : Str), ([99, 111, 117, 110, 116, 32, 112] : Str), ([99, 111, 117, 110, 116, 32, 115, 99, 114, 105, 112, 116] : Str), ([108, 111, 111, 107, 32, 112] : Str), ([108, 111, 111, 107, 32, 98] : Str), ([97, 100, 100, 32, 98] : Str), ([97, 100, 100, 32, 112] : Str), ([119, 114, 105, 116, 101, 32, 91, 112, 93, 120, 91, 47, 112, 93] : Str), ([119, 114, 105, 116, 101, 32, 91, 105, 109, 103, 32, 115, 114, 99, 61, 108, 111, 103, 111, 93] : Str), ([119, 114, 105, 116, 101, 32, 91, 108, 105, 110, 107, 32, 104, 114, 101, 102, 61, 115, 116, 121, 108, 101, 93] : Str), ([119, 114, 105, 116, 101, 32, 91, 98, 93] : Str)] : List Str) := hx5
   have hn5 := mem_len 23 hx5 Q0
   refine WL.p Q0 (Yl.cat Q0 Q0 (by simp only [List.length_append, List.length_cons, List.length_nil] at *; omega)) ?_
   refine Qa ?_
   refine WL.nil ?_
   refine At.blocknormal ?_
   refine At.then_ ?_
   refine WC.region ?_
   refine Qm ?_
   refine WL.p Q0 (Yl.sub_ Q0 Q0 Q7) ?_
   refine Qa ?_
   refine WL.nil ?_
   refine At.roundC (_, _) (hs.only Q2) ⟨by rfl, by rfl, by rfl, trivial⟩ ⟨by rfl, by rfl, trivial⟩ ?_ ?_
   ·
    show (m - 1).toNat < m.toNat
    omega
   ·
    refine ⟨by omega, by omega, ?_, ?_⟩
    · simp only [List.length_append, List.length_cons, List.length_nil] at *; omega
    · exact hJ4.one (by assumption) Q7 (show _ ∈ lines11 from hx5)
 ·
  replace h1 := of_decide_eq_false h1
  refine WC.exit ?_
  refine At.thenexit ?_
  refine At.thenexit ?_
  refine At.blockexit ?_
  refine At.then_ ?_
  refine WC.seq ?_
  refine Qm ?_
  refine Qa ?_
  refine WL.next ?_
  refine WC.ret ?_
  refine fin1' rfl Q0 ?_
  refine RetD.mk hs Q1 ?_
  refine ⟨_, rfl, (by first | exact (show WfS t from by unfold WfS; omega) | trivial | assumption | exact Flat.any (by assumption) | exact ⟨by omega, by omega⟩ | (show WfS _; unfold WfS; omega) | (show WfS _; unfold WfS; simp only [List.length_append, List.length_cons, List.length_nil] at *; omega) | (refine Ph.old ?_ hs; assumption)), ?_, ?_⟩
  ·
   have h9 := hJ4.is Q7 Q7
   exact ⟨by omega, h9.1, h9.2.1, by rw [h9.2.2]; omega⟩
  ·
   trivial

theorem c_spec_l8Lines (c : Nat) (b_ : Sl UInt8) (w : World)   (h_c : CurAt 93 b_ c w) (hb_c : CurB w b_ c) : Calls Tryz.prog 48 [bp c 0].toArray w (RetD 93 b_ c w (fun v w' => ∃ (l : Sl TLine), v = l.v ∧ (True) ∧ (0 < l.l.length ∧ lsz TLine.size l.l ≤ 200) ∧ Fresh w l w')) := by
 refine enterN 24 Tryz.func48 rfl rfl rfl ?_
 have hs := Sat.startC h_c
 refine WC.seq ?_
 refine Qa ?_
 refine WL.next ?_
 refine WC.seq ?_
 refine Qm ?_
 refine WL.calld hs (T := 93) (b := b_) (c := c) Q2 Q0 (Yc.func Q0 fn74) (c_spec_l8Text c b_ _ _ (by first | assumption | omega | (simp only [lsz] at *; omega) | (simp only [lsz, strsz, TPolicy.size, TCache.size, TAddr.size, TRequest.size, TEntry.size, TResponse.size, TLine.size] at *; omega) | (simp only [lsz_map, TPage.size, TBuilder.size, TNode.size, TToken.size, TTokenizer.size, TServer.size, TFile.size, TNet.size, TCache.size, TSheet.size, strsz] at *; omega) | (simp only [lsz_map, TPage.size, TBuilder.size, TNode.size, TToken.size, TTokenizer.size, TServer.size, TFile.size, TNet.size, TCache.size, TSheet.size, strsz, lsz] at *; omega)) (hs.cur Q1) (Apart.now hb_c hs)) ?_
 clear hs; intro v w ho hR hs
 obtain ⟨x1, rfl, hokx1, hx1, hf1⟩ := hR
 clear ho hf1
 refine WL.call hs Q0 (Yc.func Q0 fn73) (c_spec_ParseScript _ _ Q7) ?_
 have hs0 := hs; clear hs; intro v w hb hR hs; clear hs
 obtain ⟨x2, rfl, hx2, hf2⟩ := hR
 obtain ⟨F2, hs⟩ := hf2.sat hs0 hb; clear hs0 hf2
 have hz2 := script_size_of hx2; have hy2 : 0 < x2.l.length := by rw [hx2]; exact hx1.2.2.2
 refine Qm ?_
 refine WL.p Q0 (Yl.extract Q0 Q0) ?_
 refine WL.p Q0 (Yl.extract Q0 Q0) ?_
 refine Qa ?_
 refine Qa ?_
 refine WL.next ?_
 refine WC.seq' ?_
 refine WC.seq ?_
 refine Qm ?_
 refine WL.calld hs (T := 93) (b := b_) (c := c) Q2 Q0 (Yc.func Q0 fn26) (c_spec_l1Once c b_ _ _ (hs.cur Q1) (Apart.now hb_c hs)) ?_
 clear hs; intro v w ho hR hs
 obtain ⟨x3, rfl, _, hx3, hf3⟩ := hR
 clear ho hf3
 refine WL.next ?_
 refine WC.condS Q0 (fun h1 => ?_) (fun h1 => ?_)
 ·
  refine WC.region ?_
  refine Qm ?_
  refine Qm ?_
  refine WL.r Q0 (Yr.buildSlice hs sll38 Q0 Q0 Q0 Q4 Q0) ?_
  clear hs; rintro _ w ⟨b4, rfl, hb, hs⟩; clear hb
  replace hs := Sat.boxow (l := ([0, 6, 2] : List Int)) (hs.sel (D := [box b4 _ _]) Q2) rfl rfl (by decide) (ownL_mk_flat (lit_int Q0))
  try simp only [List.cons_append, List.nil_append] at hs
  refine WL.calld hs (T := 93) (b := b_) (c := c) Q2 Q0 (Yc.func Q0 fn70) (c_spec_l1Int c b_ (⟨[0, 6, 2], some ⟨b4, 0, none⟩, 3⟩ : Sl Int) _ (Apart.own (s := (⟨[0, 6, 2], some ⟨b4, 0, none⟩, 3⟩ : Sl Int)) (F := [b4]) hs Q2) (by exact Nat.succ_pos _) (hs.cur Q1) (Apart.now hb_c hs)) ?_
  clear hs; intro v w ho hR hs
  obtain ⟨x5, rfl, hokx5, hx5, hf5⟩ := hR
  clear ho hf5
  replace hx5 : x5 ∈ ([0, 6, 2] : List Int) := hx5
  have hn5 := mem_int (0) (6) hx5 Q0
  refine Qm ?_
  refine WL.r Q0 (Yr.buildSlice hs sll48 Q0 Q0 Q0 Q4 Q0) ?_
  clear hs; rintro _ w ⟨b6, rfl, hb, hs⟩; clear hb
  replace hs := Sat.boxow (l := ([([] : Str), ([81] : Str), ([112] : Str)] : List Str)) (hs.sel (D := [box b6 _ _]) Q2) rfl rfl (by decide) (ownL_mk_flat (lit_str Q0))
  try simp only [List.cons_append, List.nil_append] at hs
  refine WL.calld hs (T := 93) (b := b_) (c := c) Q2 Q0 (Yc.func Q0 fn28) (c_spec_l1Str c b_ (⟨[([] : Str), ([81] : Str), ([112] : Str)], some ⟨b6, 0, none⟩, 3⟩ : Sl Str) _ (Apart.own (s := (⟨[([] : Str), ([81] : Str), ([112] : Str)], some ⟨b6, 0, none⟩, 3⟩ : Sl Str)) (F := [b6]) hs Q2) (by exact Nat.succ_pos _) (hs.cur Q1) (Apart.now hb_c hs)) ?_
  clear hs; intro v w ho hR hs
  obtain ⟨x7, rfl, hokx7, hx7, hf7⟩ := hR
  clear ho hf7
  replace hx7 : x7 ∈ ([([] : Str), ([81] : Str), ([112] : Str)] : List Str) := hx7
  have hn7 := mem_len 1 hx7 Q0
  refine WL.p Q0 (Yl.build bt54 Q0 Q4) ?_
  refine WL.r Q0 (Yr.buildSlice hs sll45 Q0 Q0 Q0 Q4 Q0) ?_
  clear hs; rintro _ w ⟨b8, rfl, hb, hs⟩; clear hb
  refine WL.r Q0 (Yr.append (s := x2) (F := F2) hs elt45 Q2 Q0 Q0 rfl (xs := [(⟨x5, x7⟩ : TLine)]) (hs.box_cells Q1) (by intro x hx; obtain rfl := List.mem_singleton.1 hx; exact ⟨(by first | exact (Flat.any hokx5) | trivial | assumption | exact Flat.any (by assumption) | exact ⟨by omega, by omega⟩ | (show WfS _; unfold WfS; omega) | (show WfS _; unfold WfS; simp only [List.length_append, List.length_cons, List.length_nil] at *; omega) | (refine Ph.old ?_ hs; assumption)), (by first | exact (Flat.any hokx7) | trivial | assumption | exact Flat.any (by assumption) | exact ⟨by omega, by omega⟩ | (show WfS _; unfold WfS; omega) | (show WfS _; unfold WfS; simp only [List.length_append, List.length_cons, List.length_nil] at *; omega) | (refine Ph.old ?_ hs; assumption))⟩) (by first | (unfold maxLen; omega) | omega | ((try simp only [lsz, strsz, List.length_map, PCache.lg, TCache.size, PPolicy.lg, TPolicy.size, List.length_cons, List.length_nil] at *); first | (unfold maxLen; omega) | omega)) (by first | (unfold maxLen; omega) | omega | ((try simp only [lsz, strsz, List.length_map, PCache.lg, TCache.size, PPolicy.lg, TPolicy.size, List.length_cons, List.length_nil] at *); first | (unfold maxLen; omega) | omega))) ?_
  clear hs; rintro _ w ⟨s9, F9, rfl, hl9, hs⟩
  refine Qa ?_
  refine WL.nil ?_
  refine At.then_ ?_
  refine WC.seq ?_
  refine Qm ?_
  refine Qa ?_
  refine WL.next ?_
  refine WC.ret ?_
  refine fin1' rfl Q0 ?_
  refine RetD.mk hs Q1 ?_
  refine ⟨s9, rfl, trivial, ?_, ?_⟩
  ·
   repeat' apply And.intro
   all_goals (try dsimp only)
   all_goals first | trivial | assumption | omega | ((try simp only [List.length_append, List.length_cons, List.length_nil, lsz_app, lsz_one, lsz_cons, lsz_nil, TAddr.size, TResponse.size, TRequest.size, TPolicy.size, TEntry.size, TCache.size, strsz, TLine.size, TSent.size, TServer.size, TFile.size, List.map_append, List.map_cons, List.map_nil, PServer.lg, PPolicy.lg, PCache.lg, hl9] at *); first | omega | assumption)
  ·
   exact hs.freshD (x := s9) (F := F9) Q2
 ·
  refine WC.skipn ?_
  refine WC.seq ?_
  refine Qm ?_
  refine Qa ?_
  refine WL.next ?_
  refine WC.ret ?_
  refine fin1' rfl Q0 ?_
  refine RetD.mk hs Q1 ?_
  refine ⟨x2, rfl, trivial, ?_, ?_⟩
  ·
   repeat' apply And.intro
   all_goals (try dsimp only)
   all_goals first | trivial | assumption | omega | ((try simp only [List.length_append, List.length_cons, List.length_nil, lsz_app, lsz_one, lsz_cons, lsz_nil, TAddr.size, TResponse.size, TRequest.size, TPolicy.size, TEntry.size, TCache.size, strsz, TLine.size, TSent.size, TServer.size, TFile.size, List.map_append, List.map_cons, List.map_nil, PServer.lg, PPolicy.lg, PCache.lg] at *); first | omega | assumption)
  ·
   exact hs.freshD (x := x2) (F := F2) Q2

theorem c_spec_DrawRunScript (code : (Sl UInt8)) (w : World) (h_code : Ph.ok w code)  : Calls Tryz.prog 17 [Sl.v code].toArray w (Ret w (fun v w' => ∃ (b : PBuilder) (sh : Sl PSheet) (l : Sl TLine), v = .tuple #[.agg (Ph.enc b).toArray, sh.v, l.v] ∧ (True) ∧ (b.lg.size ≤ 980000 ∧ lsz TSheet.size (sh.l.map PSheet.lg) ≤ 200 ∧ lsz TLine.size l.l ≤ 200 ∧ 0 < l.l.length) ∧ Fresh3 w b sh l w')) := by
 refine enterN 18 Tryz.func17 rfl rfl rfl ?_
 have hs := Sat.start w
 refine WC.seq ?_
 refine WL.r Q0 (Yr.alloc hs zt40) ?_
 clear hs; rintro _ w ⟨b1, rfl, hb, hs⟩; clear hb
 refine Qa ?_
 refine Qa ?_
 refine WL.next ?_
 refine WC.seq ?_
 refine Qm ?_
 refine WL.calln hs Q0 (Yc.func Q0 fn25) (c_spec_l1New _ _ (Ph.old h_code hs)) ?_
 clear hs; intro c2 w hs
 refine Qa ?_
 refine WL.next ?_
 refine WC.seq ?_
 refine Qm ?_
 refine WL.calld hs (T := 93) (b := code) (c := c2) Q2 Q0 (Yc.func Q0 fn45) (c_spec_l6Any c2 code _ (hs.cur Q1) (Apart.new (by first | assumption) hs Q1)) ?_
 clear hs; intro v w ho hR hs
 obtain ⟨x3, rfl, _, hx3, hf3⟩ := hR
 obtain ⟨F3, hs⟩ := hs.addF ho hf3
 clear ho hf3
 refine WL.r Q0 (Yr.alloc hs zt40) ?_
 clear hs; rintro _ w ⟨b4, rfl, hb, hs⟩; clear hb
 refine WL.s (Yr.storeB hs Q0 Q0 Q0 Q5 Q3 Q0 (by exact szf40)) ?_
 clear hs; rintro _ w hs
 refine WL.next ?_
 refine WC.seq ?_
 refine Qm ?_
 refine WL.calld hs (T := 93) (b := code) (c := c2) Q2 Q0 (Yc.func Q0 fn42) (c_spec_l7Sheets c2 code _ (hs.cur Q1) (Apart.new (by first | assumption) hs Q1)) ?_
 clear hs; intro v w ho hR hs
 obtain ⟨x5, rfl, _, hx5, hf5⟩ := hR
 obtain ⟨F5, hs⟩ := hs.addF ho hf5
 clear ho hf5
 refine Qa ?_
 refine WL.next ?_
 refine WC.anyn2 (c := box b1 _ _) mixed hs (by repeat (first | exact Ext.here | apply Ext.there)) ?_
 clear hs; intro w hs
 refine WA.p (i := 0) Q0 Q6 Q6 Q6 Q0 (hs.only Q2) (fun w hs => Yl.loadAB agg40 Q0 hs Q1 Q0 Q0) ?_
 refine WA.p (i := 1) Q0 Q6 Q6 Q6 Q0 (hs.only Q2) (fun w hs => Yl.move Q0) ?_
 refine WA.p (i := 2) Q0 Q6 Q6 Q6 Q0 (hs.only Q2) (fun w hs => Yl.move Q0) ?_
 refine WA.calld (i := 3) hs (T := 93) (b := code) (c := c2) Q2 (fun _ hs => hs.only Q2) Q6 Q0 Q0 (Yc.func Q0 fn48) (c_spec_l8Lines c2 code _ (hs.cur Q1) (Apart.new (by first | assumption) hs Q1)) ?_
 clear hs; intro v w ho hR hs
 obtain ⟨x6, rfl, _, hx6, hf6⟩ := hR
 obtain ⟨F6, hs⟩ := hs.addF ho hf6
 clear ho hf6
 refine WA.s (i := 4) Q6 Q0 (Yr.storeB hs Q0 Q0 Q0 Q5 Q3 Q0 (by exact szf40)) (by rintro _ w hs; exact hs.only Q2) ?_
 clear hs; rintro _ w hs
 refine WA.p (i := 5) Q0 Q6 Q6 Q6 Q0 (hs.only Q2) (fun w hs => Yl.assign Q0) ?_
 refine WA.p (i := 6) Q0 Q6 Q6 Q6 Q0 (hs.only Q2) (fun w hs => Yl.assign Q0) ?_
 refine WA.donen Q6 ?_
 refine WC.ret ?_
 refine fin3c rfl agg40 Q0 Q0 Q0 hs Q1 Q0 ?_
 refine Ret.mk hs ?_
 refine ⟨x3, x5, x6, rfl, trivial, ?_, ?_⟩
 ·
  exact ⟨by omega, by omega, by omega, by omega⟩
 ·
  exact hs.fresh3 (x := x3) (F := F3) (y := x5) (G := F5) (z := x6) (H := F6) Q2

theorem c_impl_ColorOf (l : (Sl PSheet)) (name : Str) (w : World) (h_l : Ph.ok w l)  : Calls Tryz.prog 14 [Sl.v l, S name].toArray w (RetP w (I (colorOf name l.l))) := by
 have hw := h_l.lt
 refine enterN 45 Tryz.func14 rfl rfl rfl ?_
 have hs := Sat.start w
 refine WC.seq ?_
 refine Qa ?_
 refine WL.next ?_
 refine WC.seq' ?_
 refine WC.seq ?_
 refine Qm ?_
 refine WL.p Q0 (Yl.len_sl slu30 Q0) ?_
 refine WL.p Q0 (Yl.sub_ Q0 Q0 Q7) ?_
 refine Qa ?_
 refine WL.next ?_
 refine WC.block ?_
 refine WC.loopC (ι := Nat) (fun k => k) (fun k => [(5, I ((k : Int) - 1))]) (fun _ => []) (fun k => k ≤ l.l.length ∧ colSR name l.l.reverse = colSR name (l.l.take k).reverse) [(0, _), (1, _)] l.l.length (hs) ⟨by rfl, by rfl, trivial⟩ ⟨by rfl, trivial⟩ ?_ ?_
 ·
  exact ⟨Nat.le_refl _, by rw [List.take_length]⟩
 clear hs; rintro k w ⟨hJ1, hJ2⟩ hs
 simp only [List.nil_append] at hs
 have hd2x : ∃ d : PSheet, k ≠ 0 → l.l[k - 1]? = some d := by
  by_cases h9 : k = 0
  · exact ⟨⟨⟨[], none, 0⟩⟩, fun h => absurd h9 h⟩
  · exact ⟨l.l[k - 1]'Q7, fun _ => List.getElem?_eq_getElem Q7⟩
 obtain ⟨d, hd⟩ := hd2x
 refine WC.seq' ?_
 refine WC.seq ?_
 refine Qm ?_
 refine WL.p Q0 (Yl.geq Q0 Q0) ?_
 refine WL.next ?_
 refine WC.condS Q0 (fun h1 => ?_) (fun h1 => ?_)
 ·
  replace h1 := of_decide_eq_true h1
  have hwd := (Sl.Ok.elem h_l (hd Q7)).rules.lt
  refine WC.skipn ?_
  refine WC.seq' ?_
  refine WC.block ?_
  refine WC.seq ?_
  refine Qm ?_
  refine Qm ?_
  refine WL.p Q0 (Yl.indexAddr slt30 Q0 Q0 (Ph.old h_l hs) (by first | rfl | omega) ((hd Q7))) ?_
  refine WL.p Q0 (Yl.fieldAddr fa27_0 Q0) ?_
  refine WL.p Q0 (Yl.loadC sca25 Q0 (Sl.Ok.at_ (Ph.old h_l hs) ((hd Q7))).2 Q0) ?_
  refine WL.p Q0 (Yl.len_sl slu25 Q0) ?_
  refine WL.p Q0 (Yl.sub_ Q0 Q0 Q7) ?_
  refine Qa ?_
  refine WL.next ?_
  refine WC.block ?_
  refine WC.loopC (ι := Nat) (fun m => m) (fun m => [(6, I ((m : Int) - 1))]) (fun _ => []) (fun m => m ≤ d.rules.l.length ∧ colR name d.rules.l.reverse = colR name (d.rules.l.take m).reverse) [(0, _), (1, _), (5, _), (11, _)] d.rules.l.length (hs) ⟨by rfl, by rfl, by rfl, by rfl, trivial⟩ ⟨by rfl, trivial⟩ ?_ ?_
  ·
   exact ⟨Nat.le_refl _, by rw [List.take_length]⟩
  clear hs; rintro m w ⟨hI1, hI2⟩ hs
  simp only [List.nil_append] at hs
  have hd3x : ∃ x : TRule, m ≠ 0 → d.rules.l[m - 1]? = some x := by
   by_cases h9 : m = 0
   · exact ⟨⟨[], 0⟩, fun h => absurd h9 h⟩
   · exact ⟨d.rules.l[m - 1]'Q7, fun _ => List.getElem?_eq_getElem Q7⟩
  obtain ⟨x, hx⟩ := hd3x
  refine WC.seq' ?_
  refine WC.seq ?_
  refine Qm ?_
  refine WL.p Q0 (Yl.geq Q0 Q0) ?_
  refine WL.next ?_
  refine WC.condS Q0 (fun h2 => ?_) (fun h2 => ?_)
  ·
   replace h2 := of_decide_eq_true h2
   refine WC.skipn ?_
   refine WC.seq' ?_
   refine WC.block ?_
   refine WC.seq ?_
   refine Qm ?_
   refine Qm ?_
   refine WL.p Q0 (Yl.indexAddr slt30 Q0 Q0 (Ph.old h_l hs) (by first | rfl | omega) ((hd Q7))) ?_
   refine WL.p Q0 (Yl.fieldAddr fa27_0 Q0) ?_
   refine WL.p Q0 (Yl.loadC sca25 Q0 (Sl.Ok.at_ (Ph.old h_l hs) ((hd Q7))).2 Q0) ?_
   refine Qm ?_
   refine WL.p Q0 (Yl.indexAddr slt25 Q0 Q0 (Ph.old (Sl.Ok.elem h_l (hd Q7)).rules hs) (by first | rfl | omega) ((hx Q7))) ?_
   refine WL.p Q0 (Yl.fieldAddr fa36_0 Q0) ?_
   refine WL.p Q0 (Yl.loadC sca9 Q0 (Sl.Ok.at_ (Ph.old (Sl.Ok.elem h_l (hd Q7)).rules hs) ((hx Q7))).2 Q0) ?_
   refine Qm ?_
   refine WL.p Q0 (Yl.eqs Q0 Q0) ?_
   refine WL.next ?_
   refine WC.condS Q0 (fun h3 => ?_) (fun h3 => ?_)
   ·
    replace h3 := of_decide_eq_true h3
    refine WC.seq ?_
    refine Qm ?_
    refine Qm ?_
    refine WL.p Q0 (Yl.indexAddr slt30 Q0 Q0 (Ph.old h_l hs) (by first | rfl | omega) ((hd Q7))) ?_
    refine WL.p Q0 (Yl.fieldAddr fa27_0 Q0) ?_
    refine WL.p Q0 (Yl.loadC sca25 Q0 (Sl.Ok.at_ (Ph.old h_l hs) ((hd Q7))).2 Q0) ?_
    refine Qm ?_
    refine WL.p Q0 (Yl.indexAddr slt25 Q0 Q0 (Ph.old (Sl.Ok.elem h_l (hd Q7)).rules hs) (by first | rfl | omega) ((hx Q7))) ?_
    refine WL.p Q0 (Yl.fieldAddr fa36_1 Q0) ?_
    refine WL.p Q0 (Yl.loadC sca3 Q0 (Sl.Ok.at_ (Ph.old (Sl.Ok.elem h_l (hd Q7)).rules hs) ((hx Q7))).2 Q0) ?_
    refine Qa ?_
    refine WL.next ?_
    refine WC.ret ?_
    refine At.blockret ?_
    refine At.thenret ?_
    refine At.thenret ?_
    refine At.blockret ?_
    refine At.blockret ?_
    refine At.thenret ?_
    refine At.thenret ?_
    refine At.blockret ?_
    refine At.thenret ?_
    refine fin1' rfl Q0 ?_
    refine RetP.mk hs ?_
    rw [colorOf, hJ2, colSR_some Q7 (hd Q7) (hI2.trans (colR_yes Q7 (hx Q7) (by assumption)))]; rfl
   ·
    replace h3 := of_decide_eq_false h3
    refine WC.skip ?_
    refine At.blocknormal ?_
    refine At.then_ ?_
    refine WC.region ?_
    refine Qm ?_
    refine WL.p Q0 (Yl.sub_ Q0 Q0 Q7) ?_
    refine Qa ?_
    refine WL.nil ?_
    refine At.roundC (m - 1) (hs.only Q2) ⟨by rfl, by rfl, by rfl, by rfl, trivial⟩ ⟨by exact congrArg (fun z => some (I z)) Q7, trivial⟩ ?_ ?_
    ·
     omega
    ·
     exact ⟨by omega, by rw [hI2]; exact colR_no Q7 (hx Q7) (by assumption)⟩
  ·
   replace h2 := of_decide_eq_false h2
   refine WC.exit ?_
   refine At.thenexit ?_
   refine At.thenexit ?_
   refine At.blockexit ?_
   refine At.blocknormal ?_
   refine At.then_ ?_
   refine WC.region ?_
   refine Qm ?_
   refine WL.p Q0 (Yl.sub_ Q0 Q0 Q7) ?_
   refine Qa ?_
   refine WL.nil ?_
   refine At.roundC (k - 1) (hs.only Q2) ⟨by rfl, by rfl, trivial⟩ ⟨by exact congrArg (fun z => some (I z)) Q7, trivial⟩ ?_ ?_
   ·
    omega
   ·
    exact ⟨by omega, by rw [hJ2]; exact colSR_none Q7 (hd Q7) (by rw [hI2, show m = 0 from by omega]; rfl)⟩
 ·
  replace h1 := of_decide_eq_false h1
  refine WC.exit ?_
  refine At.thenexit ?_
  refine At.thenexit ?_
  refine At.blockexit ?_
  refine At.then_ ?_
  refine WC.seq ?_
  refine Qa ?_
  refine WL.next ?_
  refine WC.ret ?_
  refine fin1' rfl Q0 ?_
  refine RetP.mk hs ?_
  rw [colorOf, hJ2, show k = 0 from by omega]; rfl

theorem c_impl_InRange (n : Int) (low : Int) (high : Int) (w : World)   : Calls Tryz.prog 33 [I n, I low, I high].toArray w (RetP w (Bo (inR n low high))) := by
 refine enterN 15 Tryz.func33 rfl rfl rfl ?_
 have hs := Sat.start w
 refine WC.seq ?_
 refine Qa ?_
 refine WL.next ?_
 refine WC.seq ?_
 refine Qm ?_
 refine Qm ?_
 refine WL.p Q0 (Yl.leq Q0 Q0) ?_
 refine Qm ?_
 refine WL.split (d := 10) Q0 (fun h1 => ?_) (fun h1 => ?_)
 ·
  replace h1 := of_decide_eq_true h1
  refine WL.run (d := 10) Q0 Q0 ?_
  refine Qm ?_
  refine WL.run (d := 10) Q0 Q0 ?_
  refine Qm ?_
  refine WL.run (d := 10) Q0 Q0 ?_
  refine WL.p Q0 (Yl.leq Q0 Q0) ?_
  refine WL.p Q0 (Yl.pickT Q0 Q0) ?_
  refine Qa ?_
  refine WL.next ?_
  refine WC.ret ?_
  refine fin1' rfl Q0 ?_
  refine RetP.mk hs ?_
  simp [inR, h1]
 ·
  replace h1 := of_decide_eq_false h1
  refine WL.skip (d := 10) Q0 Q0 Q0 Q0 ?_
  refine WL.skip (d := 10) Q0 Q0 Q0 Q0 ?_
  refine WL.skip (d := 10) Q0 Q0 Q0 Q0 ?_
  refine WL.p Q0 (Yl.pickF Q0 Q0) ?_
  refine Qa ?_
  refine WL.next ?_
  refine WC.ret ?_
  refine fin1' rfl Q0 ?_
  refine RetP.mk hs ?_
  rw [inR_false.2 Q7]

theorem c_impl_IsName (s : Str) (w : World) (h_s : Ph.ok w s)  : Calls Tryz.prog 32 [S s].toArray w (RetP w (Bo (isName s))) := by
 have hw : s.length ≤ 9223372036854775807 := h_s
 refine enterN 23 Tryz.func32 rfl rfl rfl ?_
 have hs := Sat.start w
 refine WC.seq ?_
 refine Qa ?_
 refine WL.next ?_
 refine WC.seq' ?_
 refine WC.seq ?_
 refine Qa ?_
 refine WL.next ?_
 refine WC.block ?_
 refine WC.loopC (ι := Nat) (fun k => s.length - k) (fun k => [(3, I (k : Int))]) (fun _ => []) (fun k => s.all lower = (s.drop k).all lower) [(0, _)] 0 (hs) ⟨by rfl, trivial⟩ ⟨by rfl, trivial⟩ ?_ ?_
 ·
  simp
 clear hs; rintro k w hJ hs
 simp only [List.nil_append] at hs
 refine WC.seq' ?_
 refine WC.seq ?_
 refine Qm ?_
 refine Qm ?_
 refine WL.p Q0 (Yl.len_str str9 Q0) ?_
 refine WL.p Q0 (Yl.lss Q0 Q0) ?_
 refine WL.next ?_
 refine WC.condS Q0 (fun h1 => ?_) (fun h1 => ?_)
 ·
  replace h1 := of_decide_eq_true h1
  obtain ⟨d, hd⟩ := exists_get (l := s) (k := k) Q7
  rw [drop_cons hd] at hJ
  refine WC.skipn ?_
  refine WC.seq' ?_
  refine WC.block ?_
  refine WC.seq ?_
  refine Qm ?_
  refine Qm ?_
  refine WL.p Q0 (Yl.index str9 Q0 Q0 Q0 (by first | assumption | exact List.getElem?_eq_getElem Q7)) ?_
  refine WL.p Q0 (Yl.lss Q0 Q0) ?_
  refine Qm ?_
  refine WL.split (d := 14) Q0 (fun h2 => ?_) (fun h2 => ?_)
  ·
   replace h2 := of_decide_eq_true h2
   refine WL.skip (d := 14) Q0 Q0 Q0 Q0 ?_
   refine WL.skip (d := 14) Q0 Q0 Q0 Q0 ?_
   refine WL.skip (d := 14) Q0 Q0 Q0 Q0 ?_
   refine WL.skip (d := 14) Q0 Q0 Q0 Q0 ?_
   refine WL.p Q0 (Yl.pickT Q0 Q0) ?_
   refine WL.next ?_
   refine WC.condT Q0 ?_
   refine WC.seq ?_
   refine Qa ?_
   refine WL.next ?_
   refine WC.ret ?_
   refine At.blockret ?_
   refine At.thenret ?_
   refine At.thenret ?_
   refine At.blockret ?_
   refine At.thenret ?_
   refine fin1' rfl Q0 ?_
   refine RetP.mk hs ?_
   first
    | (simp [isName, hJ, lower]; done)
    | (simp [isName, hJ, lower]; omega)
    | simp_all [isName, hJ, lower]
  ·
   replace h2 := of_decide_eq_false h2
   refine WL.run (d := 14) Q0 Q0 ?_
   refine Qm ?_
   refine WL.run (d := 14) Q0 Q0 ?_
   refine Qm ?_
   refine WL.run (d := 14) Q0 Q0 ?_
   refine WL.p Q0 (Yl.index str9 Q0 Q0 Q0 (by first | assumption | exact List.getElem?_eq_getElem Q7)) ?_
   refine WL.run (d := 14) Q0 Q0 ?_
   refine WL.p Q0 (Yl.gtr Q0 Q0) ?_
   refine WL.p Q0 (Yl.pickF Q0 Q0) ?_
   refine WL.next ?_
   refine WC.condS Q0 (fun h3 => ?_) (fun h3 => ?_)
   ·
    replace h3 := of_decide_eq_true h3
    refine WC.seq ?_
    refine Qa ?_
    refine WL.next ?_
    refine WC.ret ?_
    refine At.blockret ?_
    refine At.thenret ?_
    refine At.thenret ?_
    refine At.blockret ?_
    refine At.thenret ?_
    refine fin1' rfl Q0 ?_
    refine RetP.mk hs ?_
    first
     | (simp [isName, hJ, lower]; done)
     | (simp [isName, hJ, lower]; omega)
     | simp_all [isName, hJ, lower]
   ·
    replace h3 := of_decide_eq_false h3
    refine WC.skip ?_
    refine At.blocknormal ?_
    refine At.then_ ?_
    refine WC.region ?_
    refine Qm ?_
    refine WL.p Q0 (Yl.add Q0 Q0 Q7) ?_
    refine Qa ?_
    refine WL.nil ?_
    refine At.roundC (k + 1) (hs.only Q2) ⟨by rfl, trivial⟩ ⟨by rfl, trivial⟩ ?_ ?_
    ·
     omega
    ·
     rw [hJ]; simp [lower]; omega
 ·
  replace h1 := of_decide_eq_false h1
  rw [drop_out (l := s) Q7] at hJ
  refine WC.exit ?_
  refine At.thenexit ?_
  refine At.thenexit ?_
  refine At.blockexit ?_
  refine At.then_ ?_
  refine WC.seq ?_
  refine Qm ?_
  refine WL.p Q0 (Yl.len_str str9 Q0) ?_
  refine WL.callp hs Q0 (Yc.func Q0 fn33) (c_impl_InRange _ _ _ _) ?_
  clear hs; intro w hs
  refine Qa ?_
  refine WL.next ?_
  refine WC.ret ?_
  refine fin1' rfl Q0 ?_
  refine RetP.mk hs ?_
  first
   | (simp [isName, hJ, lower]; done)
   | (simp [isName, hJ, lower]; omega)
   | simp_all [isName, hJ, lower]

theorem c_strconv_Itoa (n : Int) (w : World) (h_n : Ph.ok w n) (ht_ : Tab10 Tryz.prog w) : Calls Tryz.prog 63 [I n].toArray w (RetP w (S (Lib.itoa n))) := by
 exact itoa_calls Tryz.strconv_Itoa n w h_n ht_

theorem c_impl_FormatInt (n : Int) (w : World) (h_n : Ph.ok w n) (ht_ : Tab10 Tryz.prog w) : Calls Tryz.prog 40 [I n].toArray w (RetP w (S (Lib.itoa n))) := by
 refine enterN 5 Tryz.func40 rfl rfl rfl ?_
 have hs := Sat.start w
 refine WC.seq ?_
 refine Qa ?_
 refine WL.next ?_
 refine WC.seq ?_
 refine Qm ?_
 refine WL.callp hs Q0 (Yc.func Q0 fn63) (c_strconv_Itoa _ _ (Ph.old h_n hs) (by first | assumption | exact Sat.tab hs (by assumption))) ?_
 clear hs; intro w hs
 refine Qa ?_
 refine WL.next ?_
 refine WC.ret ?_
 refine fin1' rfl Q0 ?_
 refine RetP.mk hs ?_
 rfl

theorem c_impl_copyBuilder (b : PBuilder) (w : World) (h_b : Ph.ok w b) (hb : b.lg.size ≤ 1048576) : Calls Tryz.prog 49 [.agg #[Sl.v b.nodes, Sl.v b.opn]].toArray w (Ret w (fun v w' => ∃ x : PBuilder, v = .agg (Ph.enc x).toArray ∧ x.lg = b.lg ∧ Fresh w x w')) := by
 have hw := h_b.nodes.lt
 have hbn : lsz TNode.size (b.nodes.l.map PNode.lg) ≤ 1048576 := by simp only [TBuilder.size, PBuilder.lg] at hb; simp only [lsz] at *; omega
 have hbo : b.opn.l.length ≤ 1048576 := by simp only [TBuilder.size, PBuilder.lg, lsz] at hb; omega
 have hbl : b.nodes.l.length ≤ 1048576 := by simp only [lsz, List.length_map] at hbn; omega
 refine enterN 31 Tryz.func49 rfl rfl rfl ?_
 have hs := Sat.start w
 refine WC.seq ?_
 refine WL.r Q0 (Yr.box hs Q0 Q0) ?_
 clear hs; rintro _ w ⟨b1, rfl, hb, hs⟩; clear hb
 refine WL.r Q0 (Yr.alloc hs zt40) ?_
 clear hs; rintro _ w ⟨b2, rfl, hb, hs⟩; clear hb
 refine WL.next ?_
 refine WC.seq ?_
 refine WL.r Q0 (Yr.buildSlice hs sll38 Q0 Q0 Q0 Q4 Q0) ?_
 clear hs; rintro _ w ⟨b3, rfl, hb, hs⟩; clear hb
 refine WL.p Q0 (Yl.fieldAddr fa40_1 Q0) ?_
 refine WL.p Q0 (Yl.loadB sca38 Q0 hs Q1 Q0) ?_
 replace hs := (Sat.boxow (l := ([] : List Int)) (hs.sel (D := [box b3 _ _]) Q2) rfl rfl (by simp [maxLen]) (ownL_mk_flat (by simp)))
 refine WL.r Q0 (Yr.appendS (s := (⟨[], some ⟨b3, 0, none⟩, _⟩ : Sl Int)) (F := [b3]) (r := b.opn) hs elt38 Q2 Q0 Q0 (Ph.old h_b.opn hs) (by first | (rw [hql]; unfold maxLen; omega) | (simp; unfold maxLen; omega)) (by first | (rw [hql]; omega) | (simp; omega))) ?_
 clear hs; rintro _ w ⟨s4, F4, rfl, hl4, hs⟩
 refine WL.p Q0 (Yl.build bt40 Q0 Q4) ?_
 refine WL.r Q0 (Yr.alloc hs zt40) ?_
 clear hs; rintro _ w ⟨b5, rfl, hb, hs⟩; clear hb
 refine WL.s (Yr.storeB hs Q0 Q0 Q0 Q5 Q3 Q0 (by exact szf40)) ?_
 clear hs; rintro _ w hs
 refine WL.next ?_
 refine WC.seq' ?_
 refine WC.seq ?_
 refine WL.p Q0 (Yl.fieldAddr fa40_0 Q0) ?_
 refine WL.p Q0 (Yl.loadB sca37 Q0 hs Q1 Q0) ?_
 refine WL.p Q0 (Yl.len_sl slu37 Q0) ?_
 refine Qm ?_
 refine WL.next ?_
 refine WC.block ?_
 replace hs := Sat.nilsl (α := PNode) hs
 refine WC.loopC (ι := Nat × Sl PNode × List Nat) (fun ⟨k, q, F⟩ => b.nodes.l.length - k) (fun ⟨k, q, F⟩ => [(14, I (k : Int))]) (fun ⟨k, q, F⟩ => [box b5 40 [Sl.v q, Sl.v s4], ow q F]) (fun ⟨k, q, F⟩ => k ≤ b.nodes.l.length ∧ q.l.map PNode.lg = (b.nodes.l.take k).map PNode.lg) [(0, _), (1, _), (2, _), (3, _), (12, _), (13, _)] (0, ⟨[], none, 0⟩, []) (hs.sel (D := [box b5 40 _, ow (⟨[], none, 0⟩ : Sl PNode) []]) Q2) ⟨by rfl, by rfl, by rfl, by rfl, by rfl, by rfl, trivial⟩ ⟨by rfl, trivial⟩ ?_ ?_
 ·
  exact ⟨Nat.zero_le _, rfl⟩
 clear hs; rintro ⟨k, q, F⟩ w ⟨hJ1, hJ2⟩ hs
 simp only [List.cons_append, List.nil_append] at hs
 refine WC.seq ?_
 refine WL.p Q0 (Yl.lss Q0 Q0) ?_
 refine WL.next ?_
 refine WC.seq' ?_
 refine WC.condS Q0 (fun h1 => ?_) (fun h1 => ?_)
 ·
  replace h1 := of_decide_eq_true h1
  obtain ⟨d, hd⟩ := exists_get (l := b.nodes.l) (k := k) Q7
  have hql : q.l.length = k := by have := congrArg List.length hJ2; simp at this; omega
  have hdl := lsum_le (f := fun d : PNode => d.lg.size) (List.mem_of_getElem? hd)
  have hdf : d.attrs.l.length ≤ 1048576 := by rw [lsz_map] at hbn; simp only [lsz, TNode.size] at hbn hdl; omega
  refine WC.skipn ?_
  refine WC.seq' ?_
  refine WC.block ?_
  refine WC.seq ?_
  refine WL.p Q0 (Yl.indexAddr slt37 Q0 Q0 (Ph.old h_b.nodes hs) Q0 (hd)) ?_
  refine WL.p Q0 (Yl.loadA agg84 Q0 (Sl.Ok.at_ (Ph.old h_b.nodes hs) (by assumption)).2 Q0) ?_
  refine WL.r Q0 (Yr.alloc hs zt84) ?_
  clear hs; rintro _ w ⟨b6, rfl, hb, hs⟩; clear hb
  refine WL.s (Yr.storeB hs Q0 Q0 Q0 Q5 Q3 Q0 (by exact szf84)) ?_
  clear hs; rintro _ w hs
  refine WL.next ?_
  refine WC.seq ?_
  refine WL.r Q0 (Yr.buildSlice hs sll82 Q0 Q0 Q0 Q4 Q0) ?_
  clear hs; rintro _ w ⟨b7, rfl, hb, hs⟩; clear hb
  refine WL.p Q0 (Yl.fieldAddr fa84_3 Q0) ?_
  refine WL.p Q0 (Yl.loadB sca82 Q0 hs Q1 Q0) ?_
  replace hs := (Sat.boxow (l := ([] : List TAttr)) (hs.sel (D := [box b7 _ _]) Q2) rfl rfl (by simp [maxLen]) (ownL_mk_flat (by simp)))
  refine WL.r Q0 (Yr.appendS (s := (⟨[], some ⟨b7, 0, none⟩, _⟩ : Sl TAttr)) (F := [b7]) (r := d.attrs) hs elt82 Q2 Q0 Q0 (Ph.old (Sl.Ok.elem h_b.nodes hd).attrs hs) (by first | (rw [hql]; unfold maxLen; omega) | (simp; unfold maxLen; omega)) (by first | (rw [hql]; omega) | (simp; omega))) ?_
  clear hs; rintro _ w ⟨s8, F8, rfl, hl8, hs⟩
  refine WL.p Q0 (Yl.fieldAddr fa84_3 Q0) ?_
  refine WL.s (Yr.storeB hs Q0 Q0 Q0 Q5 Q3 Q0 (by exact szf82)) ?_
  clear hs; rintro _ w hs
  refine WL.next ?_
  refine WC.region ?_
  refine WL.p Q0 (Yl.fieldAddr fa40_0 Q0) ?_
  refine WL.p Q0 (Yl.loadB sca37 Q0 hs Q1 Q0) ?_
  refine WL.p Q0 (Yl.loadAB agg84 Q0 hs Q1 Q0 Q0) ?_
  refine WL.r Q0 (Yr.buildSlice hs sll37 Q0 Q0 Q0 Q4 Q0) ?_
  clear hs; rintro _ w ⟨b9, rfl, hb, hs⟩; clear hb
  replace hs := PNode.join (⟨d.name, d.text, d.parent, s8⟩ : PNode) (hs.sel (D := [ow s8 F8]) Q2) (by first | exact (Ph.old (Sl.Ok.elem h_b.nodes hd).name hs) | (refine Ph.old ?_ hs; assumption) ) (by first | exact (Ph.old (Sl.Ok.elem h_b.nodes hd).text hs) | (refine Ph.old ?_ hs; assumption) ) (by first | exact (Ph.old (Sl.Ok.elem h_b.nodes hd).parent hs) | (refine Ph.old ?_ hs; assumption) | exact (show WfI (d.parent) from ⟨by omega, by omega⟩))
  try simp only [List.cons_append, List.nil_append] at hs
  refine WL.r Q0 (Yr.appendE (s := q) (F := F) (u := (⟨d.name, d.text, d.parent, s8⟩ : PNode)) (G := F8) hs elt37 Q2 Q0 Q0 (hs.box_cells Q1) (by first | (rw [hql]; unfold maxLen; omega) | (simp; unfold maxLen; omega)) (by first | (rw [hql]; omega) | (simp; omega))) ?_
  clear hs; rintro _ w ⟨s10, F10, rfl, hl10, hs⟩
  refine WL.p Q0 (Yl.fieldAddr fa40_0 Q0) ?_
  refine WL.s (Yr.storeB hs Q0 Q0 Q0 Q5 Q3 Q0 (by exact szf37)) ?_
  clear hs; rintro _ w hs
  refine WL.nil ?_
  refine At.blocknormal ?_
  refine At.then_ ?_
  refine WC.region ?_
  refine WL.p Q0 (Yl.add Q0 Q0 Q7) ?_
  refine Qm ?_
  refine WL.nil ?_
  refine At.roundC (k + 1, s10, F10) (hs.only Q2) ⟨by rfl, by rfl, by rfl, by rfl, by rfl, by rfl, trivial⟩ ⟨by rfl, trivial⟩ ?_ ?_
  ·
   show b.nodes.l.length - (k + 1) < b.nodes.l.length - k
   omega
  ·
   exact ⟨by omega, by rw [hl10, List.map_append, hJ2, List.take_add_one, hd]; simp [PNode.lg, *]⟩
 ·
  replace h1 := of_decide_eq_false h1
  refine WC.exit ?_
  refine At.thenexit ?_
  refine At.thenexit ?_
  refine At.blockexit ?_
  refine At.then_ ?_
  refine WC.seq ?_
  refine WL.p Q0 (Yl.loadAB agg40 Q0 hs Q1 Q0 Q0) ?_
  refine WL.s (Yr.storeB hs Q0 Q0 Q0 Q5 Q3 Q0 (by exact szf40)) ?_
  clear hs; rintro _ w hs
  refine WL.next ?_
  refine WC.ret ?_
  refine fin1c rfl agg40 Q0 hs Q1 Q0 ?_
  refine Ret.mk hs ?_
  refine ⟨⟨q, s4⟩, rfl, ?_, ?_⟩
  · have hk9 : List.take k (List.map PNode.lg b.nodes.l) = List.map PNode.lg b.nodes.l := List.take_of_length_le (by simp; omega); simp_all [PBuilder.lg]
  · exact (PBuilder.join _ (hs.only (D := [ow q F, ow s4 F4]) Q2) ).fresh List.mem_cons_self

theorem c_impl_MarkupOf (s : Str) (w : World)  (hb : s.length ≤ 1048576) : Calls Tryz.prog 50 [S s].toArray w (RetP w (S (s.map mkB))) := by
 exact mo_impl s w hb

theorem c_impl_CountName (b : PBuilder) (name : Str) (w : World) (h_b : Ph.ok w b)  : Calls Tryz.prog 51 [.agg #[Sl.v b.nodes, Sl.v b.opn], S name].toArray w (RetP w (I (countN name b.nodes.l : Int))) := by
 have hw := h_b.nodes.lt
 refine enterN 23 Tryz.func51 rfl rfl rfl ?_
 have hs := Sat.start w
 refine WC.seq ?_
 refine WL.r Q0 (Yr.box hs Q0 Q0) ?_
 clear hs; rintro _ w ⟨b1, rfl, hb, hs⟩; clear hb
 refine Qa ?_
 refine WL.next ?_
 refine WC.seq ?_
 refine Qa ?_
 refine WL.next ?_
 refine WC.seq' ?_
 refine WC.seq ?_
 refine WL.p Q0 (Yl.fieldAddr fa40_0 Q0) ?_
 refine WL.p Q0 (Yl.loadB sca37 Q0 hs Q1 Q0) ?_
 refine WL.p Q0 (Yl.len_sl slu37 Q0) ?_
 refine Qm ?_
 refine WL.next ?_
 refine WC.block ?_
 refine WC.loopC (ι := Nat × Nat) (fun ⟨k, m⟩ => b.nodes.l.length - k) (fun ⟨k, m⟩ => [(11, I (k : Int)), (5, I (m : Int))]) (fun _ => []) (fun ⟨k, m⟩ => m ≤ k ∧ countN name b.nodes.l = m + countN name (b.nodes.l.drop k)) [(0, _), (1, _), (2, _), (4, _), (9, _), (10, _)] (0, 0) (hs) ⟨by rfl, by rfl, by rfl, by rfl, by rfl, by rfl, trivial⟩ ⟨by rfl, by rfl, trivial⟩ ?_ ?_
 ·
  exact ⟨Nat.le_refl _, by simp⟩
 clear hs; rintro ⟨k, m⟩ w ⟨hJ1, hJ2⟩ hs
 simp only [List.nil_append] at hs
 refine WC.seq ?_
 refine WL.p Q0 (Yl.lss Q0 Q0) ?_
 refine WL.next ?_
 refine WC.seq' ?_
 refine WC.condS Q0 (fun h1 => ?_) (fun h1 => ?_)
 ·
  replace h1 := of_decide_eq_true h1
  obtain ⟨d, hd⟩ := exists_get (l := b.nodes.l) (k := k) Q7
  rw [drop_cons hd] at hJ2
  refine WC.skipn ?_
  refine WC.seq' ?_
  refine WC.block ?_
  refine WC.seq ?_
  refine WL.p Q0 (Yl.indexAddr slt37 Q0 Q0 (Ph.old h_b.nodes hs) Q0 (hd)) ?_
  refine WL.p Q0 (Yl.loadA agg84 Q0 (Sl.Ok.at_ (Ph.old h_b.nodes hs) (by assumption)).2 Q0) ?_
  refine WL.r Q0 (Yr.alloc hs zt84) ?_
  clear hs; rintro _ w ⟨b2, rfl, hb, hs⟩; clear hb
  refine WL.s (Yr.storeB hs Q0 Q0 Q0 Q5 Q3 Q0 (by exact szf84)) ?_
  clear hs; rintro _ w hs
  refine WL.next ?_
  refine WC.seq ?_
  refine WL.p Q0 (Yl.fieldAddr fa84_0 Q0) ?_
  refine WL.p Q0 (Yl.loadB sca9 Q0 hs Q1 Q0) ?_
  refine Qm ?_
  refine WL.p Q0 (Yl.eqs Q0 Q0) ?_
  refine WL.next ?_
  refine WC.condS Q0 (fun h2 => ?_) (fun h2 => ?_)
  ·
   replace h2 := of_decide_eq_true h2
   refine WC.region ?_
   refine Qm ?_
   refine WL.p Q0 (Yl.add Q0 Q0 Q7) ?_
   refine Qa ?_
   refine WL.nil ?_
   refine At.blocknormal ?_
   refine At.then_ ?_
   refine WC.region ?_
   refine WL.p Q0 (Yl.add Q0 Q0 Q7) ?_
   refine Qm ?_
   refine WL.nil ?_
   refine At.roundC (k + 1, m + 1) (hs.only Q2) ⟨by rfl, by rfl, by rfl, by rfl, by rfl, by rfl, trivial⟩ ⟨by rfl, by rfl, trivial⟩ ?_ ?_
   ·
    show b.nodes.l.length - (k + 1) < b.nodes.l.length - k
    omega
   ·
    rw [countN_yes (by assumption)] at hJ2
    exact ⟨by omega, by omega⟩
  ·
   replace h2 := of_decide_eq_false h2
   refine WC.skip ?_
   refine At.blocknormal ?_
   refine At.then_ ?_
   refine WC.region ?_
   refine WL.p Q0 (Yl.add Q0 Q0 Q7) ?_
   refine Qm ?_
   refine WL.nil ?_
   refine At.roundC (k + 1, m) (hs.only Q2) ⟨by rfl, by rfl, by rfl, by rfl, by rfl, by rfl, trivial⟩ ⟨by rfl, by rfl, trivial⟩ ?_ ?_
   ·
    show b.nodes.l.length - (k + 1) < b.nodes.l.length - k
    omega
   ·
    rw [countN_no (by assumption)] at hJ2
    exact ⟨by omega, by omega⟩
 ·
  replace h1 := of_decide_eq_false h1
  rw [drop_out (l := b.nodes.l) Q7] at hJ2
  refine WC.exit ?_
  refine At.thenexit ?_
  refine At.thenexit ?_
  refine At.blockexit ?_
  refine At.then_ ?_
  refine WC.seq ?_
  refine Qm ?_
  refine Qa ?_
  refine WL.next ?_
  refine WC.ret ?_
  refine fin1' rfl Q0 ?_
  refine RetP.mk hs ?_
  rw [hJ2]; simp [countN]

theorem c_impl_RunLine (b : PBuilder) (sheets : (Sl PSheet)) (y : TLine) (w : World) (h_b : Ph.ok w b) (h_sheets : Ph.ok w sheets) (h_y : Ph.ok w y) (hb : b.lg.size ≤ 1048576) (hbt : y.text.length ≤ 1048576) (ht_ : Tab10 Tryz.prog w) : Calls Tryz.prog 19 [.agg #[Sl.v b.nodes, Sl.v b.opn], Sl.v sheets, .agg #[I y.op, S y.text]].toArray w (Ret w (fun v w' => ∃ x : PBuilder, v = .tuple #[.agg (Ph.enc x).toArray, S (if y.op = 1 then y.text.map mkB else []), S (runSaid b.lg (sheets.l.map PSheet.lg) y)] ∧ x.lg = runOut b.lg y ∧ Fresh w x w')) := by
 have hi1 := itoa_len (countN_wf y.text h_b.nodes.lt)
 have hi2 := itoa_len (colorOf_wf (name := y.text) (fun s hs9 x hx9 => (Sl.Ok.elems (h_sheets.elems s hs9).rules x hx9).color))
 refine enterN 73 Tryz.func19 rfl rfl rfl ?_
 have hs := Sat.start w
 refine WC.seq ?_
 refine WL.r Q0 (Yr.box hs Q0 Q0) ?_
 clear hs; rintro _ w ⟨b1, rfl, hb, hs⟩; clear hb
 refine WL.r Q0 (Yr.box hs Q0 Q0) ?_
 clear hs; rintro _ w ⟨b2, rfl, hb, hs⟩; clear hb
 refine WL.r Q0 (Yr.alloc hs zt40) ?_
 clear hs; rintro _ w ⟨b3, rfl, hb, hs⟩; clear hb
 refine Qa ?_
 refine Qa ?_
 refine WL.next ?_
 refine WC.seq ?_
 refine WL.p Q0 (Yl.loadAB agg40 Q0 hs Q1 Q0 Q0) ?_
 refine WL.call hs Q0 (Yc.func Q0 fn49) (c_impl_copyBuilder _ _ (Ph.old h_b hs) (by exact hb)) ?_
 have hs0 := hs; clear hs; intro v w hb hR hs; clear hs
 obtain ⟨x4, rfl, hx4, hf4⟩ := hR
 obtain ⟨F4, hs⟩ := hf4.sat hs0 hb; clear hs0 hf4
 refine WL.r Q0 (Yr.alloc hs zt40) ?_
 clear hs; rintro _ w ⟨b5, rfl, hb, hs⟩; clear hb
 refine WL.s (Yr.storeB hs Q0 Q0 Q0 Q5 Q3 Q0 (by exact szf40)) ?_
 clear hs; rintro _ w hs
 refine WL.next ?_
 refine WC.seq' ?_
 refine WC.seq ?_
 refine WL.p Q0 (Yl.fieldAddr fa54_0 Q0) ?_
 refine WL.p Q0 (Yl.loadB sca3 Q0 hs Q1 Q0) ?_
 refine WL.next ?_
 refine WC.block ?_
 refine WC.seq ?_
 refine WL.p Q0 (Yl.eqi Q0 Q0) ?_
 refine Qa ?_
 refine WL.next ?_
 refine WC.condS Q0 (fun h1 => ?_) (fun h1 => ?_)
 ·
  replace h1 := of_decide_eq_true h1
  refine WC.anyn2 (c := box b3 _ _) mixed hs (by repeat (first | exact Ext.here | apply Ext.there)) ?_
  clear hs; intro w hs
  refine WA.p (i := 0) Q0 Q6 Q6 Q6 Q0 (hs.only Q2) (fun w hs => Yl.loadAB agg40 Q0 hs Q1 Q0 Q0) ?_
  refine WA.p (i := 1) Q0 Q6 Q6 Q6 Q0 (hs.only Q2) (fun w hs => Yl.fieldAddr fa54_1 Q0) ?_
  refine WA.p (i := 2) Q0 Q6 Q6 Q6 Q0 (hs.only Q2) (fun w hs => Yl.loadB sca9 Q0 hs Q1 Q0) ?_
  refine WA.callp2 (i := 3) hs (fun _ hs => hs.only Q2) Q6 Q0 Q0 (Yc.func Q0 fn50) (c_impl_MarkupOf _ _ (by exact hbt)) ?_
  clear hs; intro w hs
  refine WA.s (i := 4) Q6 Q0 (Yr.storeB hs Q0 Q0 Q0 Q5 Q3 Q0 (by exact szf40)) (by rintro _ w hs; exact hs.only Q2) ?_
  clear hs; rintro _ w hs
  refine WA.p (i := 5) Q0 Q6 Q6 Q6 Q0 (hs.only Q2) (fun w hs => Yl.assign Q0) ?_
  refine WA.p (i := 6) Q0 Q6 Q6 Q6 Q0 (hs.only Q2) (fun w hs => Yl.assign Q0) ?_
  refine WA.donen Q6 ?_
  refine WC.ret ?_
  refine At.blockret ?_
  refine At.thenret ?_
  refine fin3c rfl agg40 Q0 Q0 Q0 hs Q1 Q0 ?_
  refine Ret.mk hs ?_
  refine ⟨x4, ?_, ?_, hs.fresh Q1⟩
  · simp_all [runSaid, countN_lg, colorOf_lg, PBuilder.lg] <;> rfl
  · first
    | (simp_all [runOut, inR_true, inR_false]; done)
    | (rw [runOut, if_neg (by rintro ⟨a1, a2, a3⟩; simp only [inR_true, inR_false, PBuilder.lg, List.length_map] at *; first | omega | simp_all)]; assumption)
 ·
  replace h1 := of_decide_eq_false h1
  refine WC.seq ?_
  refine WL.p Q0 (Yl.eqi Q0 Q0) ?_
  refine Qa ?_
  refine WL.next ?_
  refine WC.condS Q0 (fun h2 => ?_) (fun h2 => ?_)
  ·
   replace h2 := of_decide_eq_true h2
   refine WC.seq' ?_
   refine WC.seq ?_
   refine WL.p Q0 (Yl.fieldAddr fa40_0 Q0) ?_
   refine WL.p Q0 (Yl.loadB sca37 Q0 hs Q1 Q0) ?_
   refine WL.p Q0 (Yl.len_sl slu37 Q0) ?_
   refine WL.callp hs Q0 (Yc.func Q0 fn33) (c_impl_InRange _ _ _ _) ?_
   clear hs; intro w hs
   refine Qm ?_
   refine WL.split (d := 26) Q0 (fun h3 => ?_) (fun h3 => ?_)
   ·
    replace h3 := inR_true.1 h3
    refine WL.run (d := 26) Q0 Q0 ?_
    refine WL.p Q0 (Yl.fieldAddr fa54_1 Q0) ?_
    refine WL.run (d := 26) Q0 Q0 ?_
    refine WL.p Q0 (Yl.loadB sca9 Q0 hs Q1 Q0) ?_
    refine WL.run (d := 26) Q0 Q0 ?_
    refine WL.callp hs Q0 (Yc.func Q0 fn32) (c_impl_IsName _ _ (Ph.old h_y.text hs)) ?_
    clear hs; intro w hs
    refine WL.p Q0 (Yl.pickT Q0 Q0) ?_
    refine WL.next ?_
    refine WC.condS Q0 (fun h4 => ?_) (fun h4 => ?_)
    ·
     refine WC.region ?_
     refine WL.p Q0 (Yl.fieldAddr fa40_0 Q0) ?_
     refine WL.p Q0 (Yl.loadB sca37 Q0 hs Q1 Q0) ?_
     refine WL.p Q0 (Yl.fieldAddr fa54_1 Q0) ?_
     refine WL.p Q0 (Yl.loadB sca9 Q0 hs Q1 Q0) ?_
     refine WL.p Q0 (Yl.build bt84 Q0 Q4) ?_
     refine WL.r Q0 (Yr.buildSlice hs sll37 Q0 Q0 Q0 Q4 Q0) ?_
     clear hs; rintro _ w ⟨b6, rfl, hb, hs⟩; clear hb
     obtain ⟨K7_0, K7_1, hfl7, hs⟩ := PBuilder.split (hs.sel (D := [ow x4 F4]) Q2)
     try simp only [List.cons_append, List.nil_append] at hs
     replace hs := Sat.nilsl (α := TAttr) hs
     replace hs := PNode.join (⟨y.text, ([] : Str), 0, ⟨[], none, 0⟩⟩ : PNode) (hs.sel (D := [ow (⟨[], none, 0⟩ : (Sl TAttr)) []]) Q2) (by first | exact (Ph.old h_y.text hs) | (refine Ph.old ?_ hs; assumption) ) (by first | exact (show WfS [] from Nat.zero_le _) | (refine Ph.old ?_ hs; assumption) ) (by first | exact (show WfI 0 from ⟨by omega, by omega⟩) | (refine Ph.old ?_ hs; assumption) | exact (show WfI (0) from ⟨by omega, by omega⟩))
     try simp only [List.cons_append, List.nil_append] at hs
     refine WL.r Q0 (Yr.appendE (s := x4.nodes) (F := K7_0) (u := (⟨y.text, ([] : Str), 0, ⟨[], none, 0⟩⟩ : PNode)) (G := []) hs elt37 Q2 Q0 Q0 (hs.box_cells Q1) (by have e9 := congrArg (fun t : TBuilder => t.nodes.length) hx4; simp only [PBuilder.lg, List.length_map] at e9; simp; unfold maxLen; omega) (by have e9 := congrArg (fun t : TBuilder => t.nodes.length) hx4; simp only [PBuilder.lg, List.length_map] at e9; simp; omega)) ?_
     clear hs; rintro _ w ⟨s8, F8, rfl, hl8, hs⟩
     refine WL.p Q0 (Yl.fieldAddr fa40_0 Q0) ?_
     refine WL.s (Yr.storeB hs Q0 Q0 Q0 Q5 Q3 Q0 (by exact szf37)) ?_
     clear hs; rintro _ w hs
     refine WL.nil ?_
     refine At.then_ ?_
     refine WC.seq ?_
     refine WL.p Q0 (Yl.loadAB agg40 Q0 hs Q1 Q0 Q0) ?_
     refine WL.s (Yr.storeB hs Q0 Q0 Q0 Q5 Q3 Q0 (by exact szf40)) ?_
     clear hs; rintro _ w hs
     refine Qa ?_
     refine Qa ?_
     refine WL.next ?_
     refine WC.ret ?_
     refine At.blockret ?_
     refine At.thenret ?_
     refine fin3c rfl agg40 Q0 Q0 Q0 hs Q1 Q0 ?_
     refine Ret.mk hs ?_
     refine ⟨(⟨s8, x4.opn⟩ : PBuilder), ?_, ?_, (PBuilder.join (⟨s8, x4.opn⟩ : PBuilder) (hs.only (D := [ow s8 F8, ow x4.opn K7_1]) Q2)).fresh List.mem_cons_self⟩
     · simp_all [runSaid, countN_lg, colorOf_lg, PBuilder.lg] <;> rfl
     · simp_all [runOut, PBuilder.lg, PNode.lg, inR_true]
    ·
     refine WC.skipn ?_
     refine WC.seq ?_
     refine WL.p Q0 (Yl.loadAB agg40 Q0 hs Q1 Q0 Q0) ?_
     refine WL.s (Yr.storeB hs Q0 Q0 Q0 Q5 Q3 Q0 (by exact szf40)) ?_
     clear hs; rintro _ w hs
     refine Qa ?_
     refine Qa ?_
     refine WL.next ?_
     refine WC.ret ?_
     refine At.blockret ?_
     refine At.thenret ?_
     refine fin3c rfl agg40 Q0 Q0 Q0 hs Q1 Q0 ?_
     refine Ret.mk hs ?_
     refine ⟨x4, ?_, ?_, hs.fresh Q1⟩
     · simp_all [runSaid, countN_lg, colorOf_lg, PBuilder.lg] <;> rfl
     · first
       | (simp_all [runOut, inR_true, inR_false]; done)
       | (rw [runOut, if_neg (by rintro ⟨a1, a2, a3⟩; simp only [inR_true, inR_false, PBuilder.lg, List.length_map] at *; first | omega | simp_all)]; assumption)
   ·
    replace h3 := inR_false.1 h3
    refine WL.skip (d := 26) Q0 Q0 Q0 Q0 ?_
    refine WL.skip (d := 26) Q0 Q0 Q0 Q0 ?_
    refine WL.skip (d := 26) Q0 Q0 Q0 Q0 ?_
    refine WL.p Q0 (Yl.pickF Q0 Q0) ?_
    refine WL.next ?_
    refine WC.condF Q0 ?_
    refine WC.skipn ?_
    refine WC.seq ?_
    refine WL.p Q0 (Yl.loadAB agg40 Q0 hs Q1 Q0 Q0) ?_
    refine WL.s (Yr.storeB hs Q0 Q0 Q0 Q5 Q3 Q0 (by exact szf40)) ?_
    clear hs; rintro _ w hs
    refine Qa ?_
    refine Qa ?_
    refine WL.next ?_
    refine WC.ret ?_
    refine At.blockret ?_
    refine At.thenret ?_
    refine fin3c rfl agg40 Q0 Q0 Q0 hs Q1 Q0 ?_
    refine Ret.mk hs ?_
    refine ⟨x4, ?_, ?_, hs.fresh Q1⟩
    · simp_all [runSaid, countN_lg, colorOf_lg, PBuilder.lg] <;> rfl
    · first
      | (simp_all [runOut, inR_true, inR_false]; done)
      | (rw [runOut, if_neg (by rintro ⟨a1, a2, a3⟩; simp only [inR_true, inR_false, PBuilder.lg, List.length_map] at *; first | omega | simp_all)]; assumption)
  ·
   replace h2 := of_decide_eq_false h2
   refine WC.seq ?_
   refine WL.p Q0 (Yl.eqi Q0 Q0) ?_
   refine Qa ?_
   refine WL.next ?_
   refine WC.condS Q0 (fun h3 => ?_) (fun h3 => ?_)
   ·
    replace h3 := of_decide_eq_true h3
    refine WC.anyn2 (c := box b3 _ _) mixed hs (by repeat (first | exact Ext.here | apply Ext.there)) ?_
    clear hs; intro w hs
    refine WA.p (i := 0) Q0 Q6 Q6 Q6 Q0 (hs.only Q2) (fun w hs => Yl.loadAB agg40 Q0 hs Q1 Q0 Q0) ?_
    refine WA.p (i := 1) Q0 Q6 Q6 Q6 Q0 (hs.only Q2) (fun w hs => Yl.fieldAddr fa54_1 Q0) ?_
    refine WA.p (i := 2) Q0 Q6 Q6 Q6 Q0 (hs.only Q2) (fun w hs => Yl.loadB sca9 Q0 hs Q1 Q0) ?_
    refine WA.p (i := 3) Q0 Q6 Q6 Q6 Q0 (hs.only Q2) (fun w hs => Yl.cat Q0 Q0 (by simp only [List.length_append, List.length_cons, List.length_nil] at *; omega)) ?_
    refine WA.p (i := 4) Q0 Q6 Q6 Q6 Q0 (hs.only Q2) (fun w hs => Yl.cat Q0 Q0 (by simp only [List.length_append, List.length_cons, List.length_nil] at *; omega)) ?_
    refine WA.p (i := 5) Q0 Q6 Q6 Q6 Q0 (hs.only Q2) (fun w hs => Yl.loadAB agg40 Q0 hs Q1 Q0 Q0) ?_
    refine WA.p (i := 6) Q0 Q6 Q6 Q6 Q0 (hs.only Q2) (fun w hs => Yl.fieldAddr fa54_1 Q0) ?_
    refine WA.p (i := 7) Q0 Q6 Q6 Q6 Q0 (hs.only Q2) (fun w hs => Yl.loadB sca9 Q0 hs Q1 Q0) ?_
    refine WA.callp2 (i := 8) hs (fun _ hs => hs.only Q2) Q6 Q0 Q0 (Yc.func Q0 fn51) (c_impl_CountName _ _ _ (Ph.old h_b hs)) ?_
    clear hs; intro w hs
    refine WA.callp2 (i := 9) hs (fun _ hs => hs.only Q2) Q6 Q0 Q0 (Yc.func Q0 fn40) (c_impl_FormatInt _ _ (countN_wf _ h_b.nodes.lt) (by first | assumption | exact Sat.tab hs (by assumption))) ?_
    clear hs; intro w hs
    refine WA.p (i := 10) Q0 Q6 Q6 Q6 Q0 (hs.only Q2) (fun w hs => Yl.cat Q0 Q0 (by simp only [List.length_append, List.length_cons, List.length_nil] at *; omega)) ?_
    refine WA.s (i := 11) Q6 Q0 (Yr.storeB hs Q0 Q0 Q0 Q5 Q3 Q0 (by exact szf40)) (by rintro _ w hs; exact hs.only Q2) ?_
    clear hs; rintro _ w hs
    refine WA.p (i := 12) Q0 Q6 Q6 Q6 Q0 (hs.only Q2) (fun w hs => Yl.assign Q0) ?_
    refine WA.p (i := 13) Q0 Q6 Q6 Q6 Q0 (hs.only Q2) (fun w hs => Yl.assign Q0) ?_
    refine WA.donen Q6 ?_
    refine WC.ret ?_
    refine At.blockret ?_
    refine At.thenret ?_
    refine fin3c rfl agg40 Q0 Q0 Q0 hs Q1 Q0 ?_
    refine Ret.mk hs ?_
    refine ⟨x4, ?_, ?_, hs.fresh Q1⟩
    · simp_all [runSaid, countN_lg, colorOf_lg, PBuilder.lg] <;> rfl
    · first
      | (simp_all [runOut, inR_true, inR_false]; done)
      | (rw [runOut, if_neg (by rintro ⟨a1, a2, a3⟩; simp only [inR_true, inR_false, PBuilder.lg, List.length_map] at *; first | omega | simp_all)]; assumption)
   ·
    replace h3 := of_decide_eq_false h3
    refine WC.seq ?_
    refine WL.p Q0 (Yl.eqi Q0 Q0) ?_
    refine Qa ?_
    refine WL.next ?_
    refine WC.condS Q0 (fun h4 => ?_) (fun h4 => ?_)
    ·
     replace h4 := of_decide_eq_true h4
     refine WC.anyn2 (c := box b3 _ _) mixed hs (by repeat (first | exact Ext.here | apply Ext.there)) ?_
     clear hs; intro w hs
     refine WA.p (i := 0) Q0 Q6 Q6 Q6 Q0 (hs.only Q2) (fun w hs => Yl.loadAB agg40 Q0 hs Q1 Q0 Q0) ?_
     refine WA.p (i := 1) Q0 Q6 Q6 Q6 Q0 (hs.only Q2) (fun w hs => Yl.fieldAddr fa54_1 Q0) ?_
     refine WA.p (i := 2) Q0 Q6 Q6 Q6 Q0 (hs.only Q2) (fun w hs => Yl.loadB sca9 Q0 hs Q1 Q0) ?_
     refine WA.p (i := 3) Q0 Q6 Q6 Q6 Q0 (hs.only Q2) (fun w hs => Yl.cat Q0 Q0 (by simp only [List.length_append, List.length_cons, List.length_nil] at *; omega)) ?_
     refine WA.p (i := 4) Q0 Q6 Q6 Q6 Q0 (hs.only Q2) (fun w hs => Yl.cat Q0 Q0 (by simp only [List.length_append, List.length_cons, List.length_nil] at *; omega)) ?_
     refine WA.p (i := 5) Q0 Q6 Q6 Q6 Q0 (hs.only Q2) (fun w hs => Yl.move Q0) ?_
     refine WA.p (i := 6) Q0 Q6 Q6 Q6 Q0 (hs.only Q2) (fun w hs => Yl.fieldAddr fa54_1 Q0) ?_
     refine WA.p (i := 7) Q0 Q6 Q6 Q6 Q0 (hs.only Q2) (fun w hs => Yl.loadB sca9 Q0 hs Q1 Q0) ?_
     refine WA.callp2 (i := 8) hs (fun _ hs => hs.only Q2) Q6 Q0 Q0 (Yc.func Q0 fn14) (c_impl_ColorOf _ _ _ (Ph.old h_sheets hs)) ?_
     clear hs; intro w hs
     refine WA.callp2 (i := 9) hs (fun _ hs => hs.only Q2) Q6 Q0 Q0 (Yc.func Q0 fn40) (c_impl_FormatInt _ _ (colorOf_wf (fun s hs9 x hx9 => (Sl.Ok.elems (h_sheets.elems s hs9).rules x hx9).color)) (by first | assumption | exact Sat.tab hs (by assumption))) ?_
     clear hs; intro w hs
     refine WA.p (i := 10) Q0 Q6 Q6 Q6 Q0 (hs.only Q2) (fun w hs => Yl.cat Q0 Q0 (by simp only [List.length_append, List.length_cons, List.length_nil] at *; omega)) ?_
     refine WA.s (i := 11) Q6 Q0 (Yr.storeB hs Q0 Q0 Q0 Q5 Q3 Q0 (by exact szf40)) (by rintro _ w hs; exact hs.only Q2) ?_
     clear hs; rintro _ w hs
     refine WA.p (i := 12) Q0 Q6 Q6 Q6 Q0 (hs.only Q2) (fun w hs => Yl.assign Q0) ?_
     refine WA.p (i := 13) Q0 Q6 Q6 Q6 Q0 (hs.only Q2) (fun w hs => Yl.assign Q0) ?_
     refine WA.donen Q6 ?_
     refine WC.ret ?_
     refine At.blockret ?_
     refine At.thenret ?_
     refine fin3c rfl agg40 Q0 Q0 Q0 hs Q1 Q0 ?_
     refine Ret.mk hs ?_
     refine ⟨x4, ?_, ?_, hs.fresh Q1⟩
     · simp_all [runSaid, countN_lg, colorOf_lg, PBuilder.lg] <;> rfl
     · first
       | (simp_all [runOut, inR_true, inR_false]; done)
       | (rw [runOut, if_neg (by rintro ⟨a1, a2, a3⟩; simp only [inR_true, inR_false, PBuilder.lg, List.length_map] at *; first | omega | simp_all)]; assumption)
    ·
     replace h4 := of_decide_eq_false h4
     refine WC.seq ?_
     refine WL.p Q0 (Yl.eqi Q0 Q0) ?_
     refine Qa ?_
     refine WL.next ?_
     refine WC.condS Q0 (fun h5 => ?_) (fun h5 => ?_)
     ·
      replace h5 := of_decide_eq_true h5
      refine WC.anyn2 (c := box b3 _ _) mixed hs (by repeat (first | exact Ext.here | apply Ext.there)) ?_
      clear hs; intro w hs
      refine WA.p (i := 0) Q0 Q6 Q6 Q6 Q0 (hs.only Q2) (fun w hs => Yl.loadAB agg40 Q0 hs Q1 Q0 Q0) ?_
      refine WA.p (i := 1) Q0 Q6 Q6 Q6 Q0 (hs.only Q2) (fun w hs => Yl.fieldAddr fa54_1 Q0) ?_
      refine WA.p (i := 2) Q0 Q6 Q6 Q6 Q0 (hs.only Q2) (fun w hs => Yl.loadB sca9 Q0 hs Q1 Q0) ?_
      refine WA.p (i := 3) Q0 Q6 Q6 Q6 Q0 (hs.only Q2) (fun w hs => Yl.cat Q0 Q0 (by simp only [List.length_append, List.length_cons, List.length_nil] at *; omega)) ?_
      refine WA.s (i := 4) Q6 Q0 (Yr.storeB hs Q0 Q0 Q0 Q5 Q3 Q0 (by exact szf40)) (by rintro _ w hs; exact hs.only Q2) ?_
      clear hs; rintro _ w hs
      refine WA.p (i := 5) Q0 Q6 Q6 Q6 Q0 (hs.only Q2) (fun w hs => Yl.assign Q0) ?_
      refine WA.p (i := 6) Q0 Q6 Q6 Q6 Q0 (hs.only Q2) (fun w hs => Yl.assign Q0) ?_
      refine WA.donen Q6 ?_
      refine WC.ret ?_
      refine At.blockret ?_
      refine At.thenret ?_
      refine fin3c rfl agg40 Q0 Q0 Q0 hs Q1 Q0 ?_
      refine Ret.mk hs ?_
      refine ⟨x4, ?_, ?_, hs.fresh Q1⟩
      · simp_all [runSaid, countN_lg, colorOf_lg, PBuilder.lg] <;> rfl
      · first
        | (simp_all [runOut, inR_true, inR_false]; done)
        | (rw [runOut, if_neg (by rintro ⟨a1, a2, a3⟩; simp only [inR_true, inR_false, PBuilder.lg, List.length_map] at *; first | omega | simp_all)]; assumption)
     ·
      replace h5 := of_decide_eq_false h5
      refine WC.skip ?_
      refine At.blocknormal ?_
      refine At.then_ ?_
      refine WC.seq ?_
      refine WL.p Q0 (Yl.loadAB agg40 Q0 hs Q1 Q0 Q0) ?_
      refine WL.s (Yr.storeB hs Q0 Q0 Q0 Q5 Q3 Q0 (by exact szf40)) ?_
      clear hs; rintro _ w hs
      refine Qa ?_
      refine Qa ?_
      refine WL.next ?_
      refine WC.ret ?_
      refine fin3c rfl agg40 Q0 Q0 Q0 hs Q1 Q0 ?_
      refine Ret.mk hs ?_
      refine ⟨x4, ?_, ?_, hs.fresh Q1⟩
      · simp_all [runSaid, countN_lg, colorOf_lg, PBuilder.lg] <;> rfl
      · first
        | (simp_all [runOut, inR_true, inR_false]; done)
        | (rw [runOut, if_neg (by rintro ⟨a1, a2, a3⟩; simp only [inR_true, inR_false, PBuilder.lg, List.length_map] at *; first | omega | simp_all)]; assumption)

set_option maxRecDepth 20000 in
theorem c_impl_RunScript (b : PBuilder) (sheets : (Sl PSheet)) (l : (Sl TLine)) (w : World) (h_b : Ph.ok w b) (h_sheets : Ph.ok w sheets) (h_l : Ph.ok w l) (hbb : b.lg.size + lsz TLine.size l.l ≤ 1048576) (ht_ : Tab10 Tryz.prog w) : Calls Tryz.prog 18 [.agg #[Sl.v b.nodes, Sl.v b.opn], Sl.v sheets, Sl.v l].toArray w (Ret w (fun v w' => ∃ (xb : PBuilder) (xw : Str) (xl : Sl Str), v = .tuple #[.agg (Ph.enc xb).toArray, S xw, xl.v] ∧ (Ph.ok w' xw) ∧ (xb.lg = (runAll mkB (sheets.l.map PSheet.lg) b.lg l.l).1 ∧ xw = (runAll mkB (sheets.l.map PSheet.lg) b.lg l.l).2.1 ∧ xl.l = (runAll mkB (sheets.l.map PSheet.lg) b.lg l.l).2.2) ∧ Fresh2 w xb xl w')) := by
 have hw := h_l.lt
 have hll : l.l.length ≤ 1048576 := by simp only [lsz] at hbb; omega
 refine enterN 48 Tryz.func18 rfl rfl rfl ?_
 have hs := Sat.start w
 refine WC.seq ?_
 refine WL.r Q0 (Yr.box hs Q0 Q0) ?_
 clear hs; rintro _ w ⟨b1, rfl, hb, hs⟩; clear hb
 refine WL.r Q0 (Yr.alloc hs zt40) ?_
 clear hs; rintro _ w ⟨b2, rfl, hb, hs⟩; clear hb
 refine Qa ?_
 refine Qa ?_
 refine WL.next ?_
 refine WC.seq ?_
 refine WL.p Q0 (Yl.loadAB agg40 Q0 hs Q1 Q0 Q0) ?_
 refine WL.call hs Q0 (Yc.func Q0 fn49) (c_impl_copyBuilder _ _ (Ph.old h_b hs) Q7) ?_
 have hs0 := hs; clear hs; intro v w hb hR hs; clear hs
 obtain ⟨x3, rfl, hx3, hf3⟩ := hR
 obtain ⟨F3, hs⟩ := hf3.sat hs0 hb; clear hs0 hf3
 refine WL.r Q0 (Yr.alloc hs zt40) ?_
 clear hs; rintro _ w ⟨b4, rfl, hb, hs⟩; clear hb
 refine WL.s (Yr.storeB hs Q0 Q0 Q0 Q5 Q3 Q0 (by exact szf40)) ?_
 clear hs; rintro _ w hs
 refine WL.next ?_
 refine WC.seq ?_
 refine Qa ?_
 refine WL.next ?_
 refine WC.seq ?_
 refine WL.r Q0 (Yr.buildSlice hs sll48 Q0 Q0 Q0 Q4 Q0) ?_
 clear hs; rintro _ w ⟨b5, rfl, hb, hs⟩; clear hb
 refine Qa ?_
 refine WL.next ?_
 refine WC.seq' ?_
 refine WC.seq ?_
 refine Qm ?_
 refine WL.p Q0 (Yl.len_sl slu45 Q0) ?_
 refine Qm ?_
 refine WL.next ?_
 refine WC.block ?_
 replace hs := Sat.boxow (l := ([] : List Str)) (hs.sel (D := [box b5 _ _]) Q2) rfl rfl (by simp) (ownL_mk_flat (by simp))
 try simp only [List.cons_append, List.nil_append] at hs
 refine WC.loopC (ι := Nat × PBuilder × List Nat × Str × Sl Str × List Nat) (fun ⟨k, q, F, W, s, G⟩ => l.l.length - k) (fun ⟨k, q, F, W, s, G⟩ => [(22, I (k : Int)), (10, S W), (11, s.v)]) (fun ⟨k, q, F, W, s, G⟩ => [box b4 40 [Sl.v q.nodes, Sl.v q.opn], ow q F, ow s G]) (fun ⟨k, q, F, W, s, G⟩ => k ≤ l.l.length ∧ q.lg.size ≤ b.lg.size + lsz TLine.size (l.l.take k) ∧ W.length ≤ lsz TLine.size (l.l.take k) ∧ s.l.length ≤ k ∧ runAll mkB (sheets.l.map PSheet.lg) b.lg l.l = ((runAll mkB (sheets.l.map PSheet.lg) q.lg (l.l.drop k)).1, W ++ (runAll mkB (sheets.l.map PSheet.lg) q.lg (l.l.drop k)).2.1, s.l ++ (runAll mkB (sheets.l.map PSheet.lg) q.lg (l.l.drop k)).2.2)) [(0, _), (1, _), (2, _), (3, _), (6, _), (7, _), (8, _), (9, _), (20, _), (21, _)] (0, x3, F3, [], ⟨[], some ⟨b5, 0, none⟩, 0⟩, [b5]) (hs.sel (D := [box b4 40 _, ow x3 F3, ow (⟨[], some ⟨b5, 0, none⟩, 0⟩ : Sl Str) [b5]]) Q2) ⟨by rfl, by rfl, by rfl, by rfl, by rfl, by rfl, by rfl, by rfl, by rfl, by rfl, trivial⟩ ⟨by rfl, by rfl, by rfl, trivial⟩ ?_ ?_
 ·
  refine ⟨Nat.zero_le _, by rw [hx3]; exact Nat.le_add_right _ _, Nat.zero_le _, Nat.zero_le _, ?_⟩
  rw [hx3]; rfl
 clear hs; rintro ⟨k, q, F, W, s, G⟩ w ⟨hJ1, hJ2, hJ3, hJ4, hJ5⟩ hs
 simp only [List.cons_append, List.nil_append] at hs
 refine WC.seq ?_
 refine WL.p Q0 (Yl.lss Q0 Q0) ?_
 refine WL.next ?_
 refine WC.seq' ?_
 refine WC.condS Q0 (fun h1 => ?_) (fun h1 => ?_)
 ·
  replace h1 := of_decide_eq_true h1
  obtain ⟨d, hd⟩ := exists_get (l := l.l) (k := k) Q7
  refine WC.skipn ?_
  refine WC.seq' ?_
  refine WC.block ?_
  refine WC.seq ?_
  refine WL.p Q0 (Yl.indexAddr slt45 Q0 Q0 (Ph.old h_l hs) Q0 (hd)) ?_
  refine WL.p Q0 (Yl.loadA agg54 Q0 (Sl.Ok.at_ (Ph.old h_l hs) (by assumption)).2 Q0) ?_
  refine WL.r Q0 (Yr.alloc hs zt54) ?_
  clear hs; rintro _ w ⟨b6, rfl, hb, hs⟩; clear hb
  refine WL.s (Yr.storeB hs Q0 Q0 Q0 Q5 Q3 Q0 (by exact szf54)) ?_
  clear hs; rintro _ w hs
  refine WL.next ?_
  refine WC.seq ?_
  refine WL.p Q0 (Yl.loadAB agg40 Q0 hs Q1 Q0 Q0) ?_
  refine Qm ?_
  refine WL.p Q0 (Yl.loadAB agg54 Q0 hs Q1 Q0 Q0) ?_
  refine WL.call hs Q0 (Yc.func Q0 fn19) (c_impl_RunLine _ _ _ _ ⟨(hs.okow (x := q) (F := F) Q1).nodes, (hs.okow (x := q) (F := F) Q1).opn⟩ (Ph.old h_sheets hs) (Ph.old (Sl.Ok.elem h_l hd) hs) (by have := lsz_take TLine.size l.l k; omega) (by have h9 := lsum_le (f := TLine.size) (List.mem_of_getElem? hd); simp only [lsz, TLine.size] at h9 hbb ⊢; omega) (by first | assumption | exact Sat.tab hs (by assumption))) ?_
  have hs0 := hs; clear hs; intro v w hb hR hs; clear hs
  obtain ⟨x7, rfl, hx7, hf7⟩ := hR
  obtain ⟨F7, hs⟩ := hf7.sat hs0 hb; clear hs0 hf7
  refine Qm ?_
  refine WL.p Q0 (Yl.extract Q0 Q0) ?_
  refine WL.p Q0 (Yl.extract Q0 Q0) ?_
  refine WL.p Q0 (Yl.extract Q0 Q0) ?_
  refine WL.r Q0 (Yr.alloc hs zt40) ?_
  clear hs; rintro _ w ⟨b8, rfl, hb, hs⟩; clear hb
  refine WL.s (Yr.storeB hs Q0 Q0 Q0 Q5 Q3 Q0 (by exact szf40)) ?_
  clear hs; rintro _ w hs
  refine Qa ?_
  refine Qa ?_
  refine WL.next ?_
  refine WC.seq ?_
  refine WL.p Q0 (Yl.loadAB agg40 Q0 hs Q1 Q0 Q0) ?_
  refine WL.s (Yr.storeB hs Q0 Q0 Q0 Q5 Q3 Q0 (by exact szf40)) ?_
  clear hs; rintro _ w hs
  refine WL.next ?_
  refine WC.seq ?_
  refine Qm ?_
  refine Qm ?_
  refine WL.p Q0 (Yl.cat Q0 Q0 (by exact wrote_len (lsz_take TLine.size l.l k) hJ3 hbb (List.mem_of_getElem? hd))) ?_
  refine Qa ?_
  refine WL.next ?_
  refine WC.seq ?_
  refine Qm ?_
  refine WL.p Q0 (Yl.nes Q0 Q0) ?_
  refine WL.next ?_
  refine WC.condS Q0 (fun h2 => ?_) (fun h2 => ?_)
  ·
   replace h2 := not_eq_true h2
   replace h2 := of_decide_eq_false h2
   refine WC.region ?_
   refine Qm ?_
   refine Qm ?_
   refine WL.r Q0 (Yr.buildSlice hs sll48 Q0 Q0 Q0 Q4 Q0) ?_
   clear hs; rintro _ w ⟨b9, rfl, hb, hs⟩; clear hb
   refine WL.r Q0 (Yr.append (s := s) (F := G) hs elt48 Q2 Q0 Q0 rfl (xs := [runSaid q.lg (sheets.l.map PSheet.lg) d]) (hs.box_cells Q1) (by intro x hx; obtain rfl := List.mem_singleton.1 hx; exact runSaid_wf (hs.okow (x := q) (F := F) Q1) (Ph.old h_sheets hs) (lineText_le hbb (List.mem_of_getElem? hd))) (by unfold maxLen; simp only [List.length_singleton]; omega) (by simp only [List.length_singleton]; omega)) ?_
   clear hs; rintro _ w ⟨s10, F10, rfl, hl10, hs⟩
   refine Qa ?_
   refine WL.nil ?_
   refine At.blocknormal ?_
   refine At.then_ ?_
   refine WC.region ?_
   refine WL.p Q0 (Yl.add Q0 Q0 Q7) ?_
   refine Qm ?_
   refine WL.nil ?_
   refine At.roundC (k + 1, x7, _, _, s10, F10) (hs.only Q2) ⟨by rfl, by rfl, by rfl, by rfl, by rfl, by rfl, by rfl, by rfl, by rfl, by rfl, trivial⟩ ⟨by rfl, by rfl, by rfl, trivial⟩ ?_ ?_
   ·
    show l.l.length - (k + 1) < l.l.length - k
    omega
   ·
    have h9 := run_next hd hJ5
    rw [saidOf_ne (by assumption)] at h9
    refine ⟨by omega, run_size hx7 hJ2 hd, run_wrote hJ3 hd, by rw [hl10, List.length_append, List.length_singleton]; omega, ?_⟩
    rw [hx7, hl10]; exact h9
  ·
   replace h2 := not_eq_false h2
   replace h2 := of_decide_eq_true h2
   refine WC.skip ?_
   refine At.blocknormal ?_
   refine At.then_ ?_
   refine WC.region ?_
   refine WL.p Q0 (Yl.add Q0 Q0 Q7) ?_
   refine Qm ?_
   refine WL.nil ?_
   refine At.roundC (k + 1, x7, _, _, s, G) (hs.only Q2) ⟨by rfl, by rfl, by rfl, by rfl, by rfl, by rfl, by rfl, by rfl, by rfl, by rfl, trivial⟩ ⟨by rfl, by rfl, by rfl, trivial⟩ ?_ ?_
   ·
    show l.l.length - (k + 1) < l.l.length - k
    omega
   ·
    have h9 := run_next hd hJ5
    rw [saidOf_nil (by assumption), List.append_nil] at h9
    refine ⟨by omega, run_size hx7 hJ2 hd, run_wrote hJ3 hd, by omega, ?_⟩
    rw [hx7]; exact h9
 ·
  replace h1 := of_decide_eq_false h1
  refine WC.exit ?_
  refine At.thenexit ?_
  refine At.thenexit ?_
  refine At.blockexit ?_
  refine At.then_ ?_
  refine WC.seq ?_
  refine WL.p Q0 (Yl.loadAB agg40 Q0 hs Q1 Q0 Q0) ?_
  refine Qm ?_
  refine Qm ?_
  refine WL.s (Yr.storeB hs Q0 Q0 Q0 Q5 Q3 Q0 (by exact szf40)) ?_
  clear hs; rintro _ w hs
  refine Qa ?_
  refine Qa ?_
  refine WL.next ?_
  refine WC.ret ?_
  refine fin3c rfl agg40 Q0 Q0 Q0 hs Q1 Q0 ?_
  have h8 := lsz_take TLine.size l.l k
  have hWl : W.length ≤ 1048576 := by omega
  refine Ret.mk hs ?_
  refine ⟨q, _, s, rfl, (by first | trivial | assumption | exact Flat.any (by assumption) | exact ⟨by omega, by omega⟩ | (show WfS _; unfold WfS; omega) | (show WfS _; unfold WfS; simp only [List.length_append, List.length_cons, List.length_nil] at *; omega) | (refine Ph.old ?_ hs; assumption)), ?_, ?_⟩
  ·
   have h9 := run_end Q7 hJ5
   rw [h9]; exact ⟨rfl, rfl, rfl⟩
  ·
   exact hs.fresh2 (x := q) (F := F) (y := s) (G := G) Q2

theorem c_slices_EqualFunc___impl_Node___impl_Node_impl_Node_impl_Node_ (s1 : (Sl PNode)) (s2 : (Sl PNode)) (eq : FuncId) (us_eq : List Value) (p_eq : PNode → PNode → Bool) (w : World) (h_s1 : Ph.ok w s1) (h_s2 : Ph.ok w s2)  (hfn_eq : FN Tryz.prog eq) (hf_eq : ∀ x ∈ s1.l, ∀ y ∈ s2.l, ∀ w', Below w.heap.size w w' → Calls Tryz.prog eq (([.agg (Ph.enc x).toArray, .agg (Ph.enc y).toArray] : List Value) ++ us_eq).toArray w' (RetP w' (Bo (p_eq x y)))) : Calls Tryz.prog 52 [Sl.v s1, Sl.v s2, .func (.func eq) #[] us_eq.toArray].toArray w (RetP w (Bo (eqWith p_eq s1.l s2.l))) := by
 have hw := h_s1.lt
 refine enterN 32 Tryz.func52 rfl rfl rfl ?_
 have hs := Sat.start w
 refine WC.seq ?_
 refine Qa ?_
 refine WL.next ?_
 refine WC.seq' ?_
 refine WC.seq ?_
 refine Qm ?_
 refine WL.p Q0 (Yl.len_sl slu37 Q0) ?_
 refine Qm ?_
 refine WL.p Q0 (Yl.len_sl slu37 Q0) ?_
 refine WL.p Q0 (Yl.nei Q0 Q0) ?_
 refine WL.next ?_
 refine WC.condS Q0 (fun h1 => ?_) (fun h1 => ?_)
 ·
  replace h1 := not_eq_true h1
  replace h1 := of_decide_eq_false h1
  refine WC.seq ?_
  refine Qa ?_
  refine WL.next ?_
  refine WC.ret ?_
  refine At.thenret ?_
  refine fin1' rfl Q0 ?_
  refine RetP.mk hs ?_
  rw [eqWith_len Q7]
 ·
  replace h1 := not_eq_false h1
  replace h1 := of_decide_eq_true h1
  refine WC.skipn ?_
  refine WC.seq' ?_
  refine WC.seq ?_
  refine Qm ?_
  refine WL.p Q0 (Yl.len_sl slu37 Q0) ?_
  refine Qm ?_
  refine WL.next ?_
  refine WC.block ?_
  refine WC.loopC (ι := Nat) (fun k => s1.l.length - k) (fun k => [(17, I (k : Int))]) (fun _ => []) (fun k => eqWith p_eq s1.l s2.l = eqWith p_eq (s1.l.drop k) (s2.l.drop k)) [(0, _), (1, _), (2, _), (14, _), (15, _), (16, _)] 0 (hs) ⟨by rfl, by rfl, by rfl, by rfl, by rfl, by rfl, trivial⟩ ⟨by rfl, trivial⟩ ?_ ?_
  ·
   simp
  clear hs; rintro k w hJ hs
  simp only [List.nil_append] at hs
  refine WC.seq ?_
  refine WL.p Q0 (Yl.lss Q0 Q0) ?_
  refine WL.next ?_
  refine WC.seq' ?_
  refine WC.condS Q0 (fun h2 => ?_) (fun h2 => ?_)
  ·
   replace h2 := of_decide_eq_true h2
   obtain ⟨d, hd⟩ := exists_get (l := s1.l) (k := k) Q7
   obtain ⟨d2, hd2⟩ := exists_get (l := s2.l) (k := k) Q7
   rw [drop_cons hd, drop_cons hd2] at hJ
   refine WC.skipn ?_
   refine WC.seq' ?_
   refine WC.block ?_
   refine WC.seq ?_
   refine Qm ?_
   refine WL.p Q0 (Yl.indexAddr slt37 Q0 Q0 (Ph.old h_s1 hs) Q0 (hd)) ?_
   refine WL.p Q0 (Yl.loadA agg84 Q0 (Sl.Ok.at_ (Ph.old h_s1 hs) (by assumption)).2 Q0) ?_
   refine WL.r Q0 (Yr.alloc hs zt84) ?_
   clear hs; rintro _ w ⟨b1, rfl, hb, hs⟩; clear hb
   refine Qa ?_
   refine WL.s (Yr.storeB hs Q0 Q0 Q0 Q5 Q3 Q0 (by exact szf84)) ?_
   clear hs; rintro _ w hs
   refine WL.next ?_
   refine WC.seq ?_
   refine Qm ?_
   refine Qm ?_
   refine WL.p Q0 (Yl.indexAddr slt37 Q0 Q0 (Ph.old h_s2 hs) Q0 (hd2)) ?_
   refine WL.p Q0 (Yl.loadA agg84 Q0 (Sl.Ok.at_ (Ph.old h_s2 hs) (by assumption)).2 Q0) ?_
   refine WL.r Q0 (Yr.alloc hs zt84) ?_
   clear hs; rintro _ w ⟨b2, rfl, hb, hs⟩; clear hb
   refine WL.s (Yr.storeB hs Q0 Q0 Q0 Q5 Q3 Q0 (by exact szf84)) ?_
   clear hs; rintro _ w hs
   refine WL.next ?_
   refine WC.seq ?_
   refine Qm ?_
   refine WL.p Q0 (Yl.loadAB agg84 Q0 hs Q1 Q0 Q0) ?_
   refine WL.p Q0 (Yl.loadAB agg84 Q0 hs Q1 Q0 Q0) ?_
   refine WL.callp hs Q0 (Yc.value Q0 Q0 hfn_eq Q0) (hf_eq _ (List.mem_of_getElem? (by assumption)) _ (List.mem_of_getElem? (by assumption)) _ hs.below) ?_
   clear hs; intro w hs
   refine WL.p Q0 (Yl.not Q0) ?_
   refine WL.next ?_
   refine WC.condS Q0 (fun h3 => ?_) (fun h3 => ?_)
   ·
    replace h3 := not_eq_true h3
    refine WC.seq ?_
    refine Qa ?_
    refine WL.next ?_
    refine WC.ret ?_
    refine At.blockret ?_
    refine At.thenret ?_
    refine At.thenret ?_
    refine At.blockret ?_
    refine At.thenret ?_
    refine fin1' rfl Q0 ?_
    refine RetP.mk hs ?_
    rw [hJ]; simp_all [eqWith]
   ·
    replace h3 := not_eq_false h3
    refine WC.skip ?_
    refine At.blocknormal ?_
    refine At.then_ ?_
    refine WC.region ?_
    refine WL.p Q0 (Yl.add Q0 Q0 Q7) ?_
    refine Qm ?_
    refine WL.nil ?_
    refine At.roundC (k + 1) (hs.only Q2) ⟨by rfl, by rfl, by rfl, by rfl, by rfl, by rfl, trivial⟩ ⟨by rfl, trivial⟩ ?_ ?_
    ·
     omega
    ·
     rw [hJ]; simp_all [eqWith]
  ·
   replace h2 := of_decide_eq_false h2
   rw [drop_out (l := s1.l) Q7, drop_out (l := s2.l) Q7] at hJ
   refine WC.exit ?_
   refine At.thenexit ?_
   refine At.thenexit ?_
   refine At.blockexit ?_
   refine At.then_ ?_
   refine WC.seq ?_
   refine Qa ?_
   refine WL.next ?_
   refine WC.ret ?_
   refine fin1' rfl Q0 ?_
   refine RetP.mk hs ?_
   rw [hJ]; simp_all [eqWith]

theorem c_slices_Equal___impl_Attr_impl_Attr_ (s1 : (Sl TAttr)) (s2 : (Sl TAttr)) (w : World) (h_s1 : Ph.ok w s1) (h_s2 : Ph.ok w s2)  : Calls Tryz.prog 77 [Sl.v s1, Sl.v s2].toArray w (RetP w (Bo (decide (s1.l = s2.l)))) := by
 have hw := h_s1.lt
 refine enterN 26 Tryz.func77 rfl rfl rfl ?_
 have hs := Sat.start w
 refine WC.seq ?_
 refine Qa ?_
 refine WL.next ?_
 refine WC.seq' ?_
 refine WC.seq ?_
 refine Qm ?_
 refine WL.p Q0 (Yl.len_sl slu82 Q0) ?_
 refine Qm ?_
 refine WL.p Q0 (Yl.len_sl slu82 Q0) ?_
 refine WL.p Q0 (Yl.nei Q0 Q0) ?_
 refine WL.next ?_
 refine WC.condS Q0 (fun h1 => ?_) (fun h1 => ?_)
 ·
  replace h1 := not_eq_true h1
  replace h1 := of_decide_eq_false h1
  refine WC.seq ?_
  refine Qa ?_
  refine WL.next ?_
  refine WC.ret ?_
  refine At.thenret ?_
  refine fin1' rfl Q0 ?_
  refine RetP.mk hs ?_
  have hne : ¬ s1.l = s2.l := by
   intro h
   have h2 := congrArg List.length h
   try simp at h2
   omega
  simp only [hne, decide_false]
 ·
  replace h1 := not_eq_false h1
  replace h1 := of_decide_eq_true h1
  refine WC.skipn ?_
  refine WC.seq' ?_
  refine WC.seq ?_
  refine Qm ?_
  refine WL.p Q0 (Yl.len_sl slu82 Q0) ?_
  refine Qm ?_
  refine WL.next ?_
  refine WC.block ?_
  refine WC.loopC (ι := Nat) (fun k => s1.l.length - k) (fun k => [(13, I (k : Int))]) (fun _ => []) (fun k => decide (s1.l = s2.l) = decide (s1.l.drop k = s2.l.drop k)) [(0, _), (1, _), (10, _), (12, _)] 0 (hs) ⟨by rfl, by rfl, by rfl, by rfl, trivial⟩ ⟨by rfl, trivial⟩ ?_ ?_
  ·
   simp
  clear hs; rintro k w hJ hs
  simp only [List.nil_append] at hs
  refine WC.seq ?_
  refine WL.p Q0 (Yl.lss Q0 Q0) ?_
  refine WL.next ?_
  refine WC.seq' ?_
  refine WC.condS Q0 (fun h2 => ?_) (fun h2 => ?_)
  ·
   replace h2 := of_decide_eq_true h2
   obtain ⟨d, hd⟩ := exists_get (l := s1.l) (k := k) Q7
   obtain ⟨d2, hd2⟩ := exists_get (l := s2.l) (k := k) Q7
   rw [drop_cons hd, drop_cons hd2] at hJ
   refine WC.skipn ?_
   refine WC.seq' ?_
   refine WC.block ?_
   refine WC.seq ?_
   refine Qm ?_
   refine Qa ?_
   refine WL.next ?_
   refine WC.quietn mixed Q6 hs ?_
   refine WQ.p Q0 (fun w hs => Yl.move Q0) ?_
   refine WQ.p Q0 (fun w hs => Yl.move Q0) ?_
   refine WQ.p Q0 (fun w hs => Yl.indexAddr slt82 Q0 Q0 (Ph.old h_s1 hs) Q0 (hd)) ?_
   refine WQ.p Q0 (fun w hs => Yl.loadA agg121 Q0 (Sl.Ok.at_ (Ph.old h_s1 hs) (by assumption)).2 Q0) ?_
   refine WQ.p Q0 (fun w hs => Yl.move Q0) ?_
   refine WQ.p Q0 (fun w hs => Yl.move Q0) ?_
   refine WQ.p Q0 (fun w hs => Yl.indexAddr slt82 Q0 Q0 (Ph.old h_s2 hs) Q0 (hd2)) ?_
   refine WQ.p Q0 (fun w hs => Yl.loadA agg121 Q0 (Sl.Ok.at_ (Ph.old h_s2 hs) (by assumption)).2 Q0) ?_
   refine WQ.p Q0 (fun w hs => Yl.net eqt121 Q0 Q0) ?_
   refine WQ.next ?_
   clear hs; intro w hs
   refine WC.condS Q0 (fun h3 => ?_) (fun h3 => ?_)
   ·
    replace h3 := not_eq_true h3
    replace h3 := of_decide_eq_false h3
    refine WC.seq ?_
    refine Qa ?_
    refine WL.next ?_
    refine WC.ret ?_
    refine At.blockret ?_
    refine At.thenret ?_
    refine At.thenret ?_
    refine At.blockret ?_
    refine At.thenret ?_
    refine fin1' rfl Q0 ?_
    refine RetP.mk hs ?_
    rw [hJ]; simp_all
   ·
    replace h3 := not_eq_false h3
    replace h3 := of_decide_eq_true h3
    refine WC.skip ?_
    refine At.blocknormal ?_
    refine At.then_ ?_
    refine WC.region ?_
    refine WL.p Q0 (Yl.add Q0 Q0 Q7) ?_
    refine Qm ?_
    refine WL.nil ?_
    refine At.roundC (k + 1) (hs.only Q2) ⟨by rfl, by rfl, by rfl, by rfl, trivial⟩ ⟨by rfl, trivial⟩ ?_ ?_
    ·
     omega
    ·
     rw [hJ]; simp_all
  ·
   replace h2 := of_decide_eq_false h2
   rw [drop_out (l := s1.l) Q7, drop_out (l := s2.l) Q7] at hJ
   refine WC.exit ?_
   refine At.thenexit ?_
   refine At.thenexit ?_
   refine At.blockexit ?_
   refine At.then_ ?_
   refine WC.seq ?_
   refine Qa ?_
   refine WL.next ?_
   refine WC.ret ?_
   refine fin1' rfl Q0 ?_
   refine RetP.mk hs ?_
   rw [hJ]; simp_all

theorem c_impl_equalNodes (a : PNode) (b : PNode) (w : World) (h_a : Ph.ok w a) (h_b : Ph.ok w b)  : Calls Tryz.prog 53 [.agg #[S a.name, S a.text, I a.parent, Sl.v a.attrs], .agg #[S b.name, S b.text, I b.parent, Sl.v b.attrs]].toArray w (RetP w (Bo (decide (a.lg = b.lg)))) := by
 refine enterN 31 Tryz.func53 rfl rfl rfl ?_
 have hs := Sat.start w
 refine WC.seq ?_
 refine WL.r Q0 (Yr.box hs Q0 Q0) ?_
 clear hs; rintro _ w ⟨b1, rfl, hb, hs⟩; clear hb
 refine WL.r Q0 (Yr.box hs Q0 Q0) ?_
 clear hs; rintro _ w ⟨b2, rfl, hb, hs⟩; clear hb
 refine Qa ?_
 refine WL.next ?_
 refine WC.seq ?_
 refine WL.p Q0 (Yl.fieldAddr fa84_0 Q0) ?_
 refine WL.p Q0 (Yl.loadB sca9 Q0 hs Q1 Q0) ?_
 refine WL.p Q0 (Yl.fieldAddr fa84_0 Q0) ?_
 refine WL.p Q0 (Yl.loadB sca9 Q0 hs Q1 Q0) ?_
 refine WL.p Q0 (Yl.eqs Q0 Q0) ?_
 refine Qm ?_
 refine WL.split (d := 10) Q0 (fun h1 => ?_) (fun h1 => ?_)
 ·
  replace h1 := of_decide_eq_true h1
  refine WL.run (d := 10) Q0 Q0 ?_
  refine WL.p Q0 (Yl.fieldAddr fa84_1 Q0) ?_
  refine WL.run (d := 10) Q0 Q0 ?_
  refine WL.p Q0 (Yl.loadB sca9 Q0 hs Q1 Q0) ?_
  refine WL.run (d := 10) Q0 Q0 ?_
  refine WL.p Q0 (Yl.fieldAddr fa84_1 Q0) ?_
  refine WL.run (d := 10) Q0 Q0 ?_
  refine WL.p Q0 (Yl.loadB sca9 Q0 hs Q1 Q0) ?_
  refine WL.run (d := 10) Q0 Q0 ?_
  refine WL.p Q0 (Yl.eqs Q0 Q0) ?_
  refine WL.p Q0 (Yl.pickT Q0 Q0) ?_
  refine Qm ?_
  refine WL.split (d := 17) Q0 (fun h2 => ?_) (fun h2 => ?_)
  ·
   replace h2 := of_decide_eq_true h2
   refine WL.run (d := 17) Q0 Q0 ?_
   refine WL.p Q0 (Yl.fieldAddr fa84_2 Q0) ?_
   refine WL.run (d := 17) Q0 Q0 ?_
   refine WL.p Q0 (Yl.loadB sca3 Q0 hs Q1 Q0) ?_
   refine WL.run (d := 17) Q0 Q0 ?_
   refine WL.p Q0 (Yl.fieldAddr fa84_2 Q0) ?_
   refine WL.run (d := 17) Q0 Q0 ?_
   refine WL.p Q0 (Yl.loadB sca3 Q0 hs Q1 Q0) ?_
   refine WL.run (d := 17) Q0 Q0 ?_
   refine WL.p Q0 (Yl.eqi Q0 Q0) ?_
   refine WL.p Q0 (Yl.pickT Q0 Q0) ?_
   refine Qm ?_
   refine WL.split (d := 24) Q0 (fun h3 => ?_) (fun h3 => ?_)
   ·
    replace h3 := of_decide_eq_true h3
    refine WL.run (d := 24) Q0 Q0 ?_
    refine WL.p Q0 (Yl.fieldAddr fa84_3 Q0) ?_
    refine WL.run (d := 24) Q0 Q0 ?_
    refine WL.p Q0 (Yl.loadB sca82 Q0 hs Q1 Q0) ?_
    refine WL.run (d := 24) Q0 Q0 ?_
    refine WL.p Q0 (Yl.fieldAddr fa84_3 Q0) ?_
    refine WL.run (d := 24) Q0 Q0 ?_
    refine WL.p Q0 (Yl.loadB sca82 Q0 hs Q1 Q0) ?_
    refine WL.run (d := 24) Q0 Q0 ?_
    refine WL.callp hs Q0 (Yc.func Q0 fn77) (c_slices_Equal___impl_Attr_impl_Attr_ _ _ _ (Ph.old h_a.attrs hs) (Ph.old h_b.attrs hs)) ?_
    clear hs; intro w hs
    refine WL.p Q0 (Yl.pickT Q0 Q0) ?_
    refine Qa ?_
    refine WL.next ?_
    refine WC.ret ?_
    refine fin1' rfl Q0 ?_
    refine RetP.mk hs ?_
    simp_all [TNode.ext_iff]
   ·
    replace h3 := of_decide_eq_false h3
    refine WL.skip (d := 24) Q0 Q0 Q0 Q0 ?_
    refine WL.skip (d := 24) Q0 Q0 Q0 Q0 ?_
    refine WL.skip (d := 24) Q0 Q0 Q0 Q0 ?_
    refine WL.skip (d := 24) Q0 Q0 Q0 Q0 ?_
    refine WL.skip (d := 24) Q0 Q0 Q0 Q0 ?_
    refine WL.p Q0 (Yl.pickF Q0 Q0) ?_
    refine Qa ?_
    refine WL.next ?_
    refine WC.ret ?_
    refine fin1' rfl Q0 ?_
    refine RetP.mk hs ?_
    simp_all [TNode.ext_iff]
  ·
   replace h2 := of_decide_eq_false h2
   refine WL.skip (d := 17) Q0 Q0 Q0 Q0 ?_
   refine WL.skip (d := 17) Q0 Q0 Q0 Q0 ?_
   refine WL.skip (d := 17) Q0 Q0 Q0 Q0 ?_
   refine WL.skip (d := 17) Q0 Q0 Q0 Q0 ?_
   refine WL.skip (d := 17) Q0 Q0 Q0 Q0 ?_
   refine WL.p Q0 (Yl.pickF Q0 Q0) ?_
   refine Qm ?_
   refine WL.skip (d := 24) Q0 Q0 Q0 Q0 ?_
   refine WL.skip (d := 24) Q0 Q0 Q0 Q0 ?_
   refine WL.skip (d := 24) Q0 Q0 Q0 Q0 ?_
   refine WL.skip (d := 24) Q0 Q0 Q0 Q0 ?_
   refine WL.skip (d := 24) Q0 Q0 Q0 Q0 ?_
   refine WL.p Q0 (Yl.pickF Q0 Q0) ?_
   refine Qa ?_
   refine WL.next ?_
   refine WC.ret ?_
   refine fin1' rfl Q0 ?_
   refine RetP.mk hs ?_
   simp_all [TNode.ext_iff]
 ·
  replace h1 := of_decide_eq_false h1
  refine WL.skip (d := 10) Q0 Q0 Q0 Q0 ?_
  refine WL.skip (d := 10) Q0 Q0 Q0 Q0 ?_
  refine WL.skip (d := 10) Q0 Q0 Q0 Q0 ?_
  refine WL.skip (d := 10) Q0 Q0 Q0 Q0 ?_
  refine WL.skip (d := 10) Q0 Q0 Q0 Q0 ?_
  refine WL.p Q0 (Yl.pickF Q0 Q0) ?_
  refine Qm ?_
  refine WL.skip (d := 17) Q0 Q0 Q0 Q0 ?_
  refine WL.skip (d := 17) Q0 Q0 Q0 Q0 ?_
  refine WL.skip (d := 17) Q0 Q0 Q0 Q0 ?_
  refine WL.skip (d := 17) Q0 Q0 Q0 Q0 ?_
  refine WL.skip (d := 17) Q0 Q0 Q0 Q0 ?_
  refine WL.p Q0 (Yl.pickF Q0 Q0) ?_
  refine Qm ?_
  refine WL.skip (d := 24) Q0 Q0 Q0 Q0 ?_
  refine WL.skip (d := 24) Q0 Q0 Q0 Q0 ?_
  refine WL.skip (d := 24) Q0 Q0 Q0 Q0 ?_
  refine WL.skip (d := 24) Q0 Q0 Q0 Q0 ?_
  refine WL.skip (d := 24) Q0 Q0 Q0 Q0 ?_
  refine WL.p Q0 (Yl.pickF Q0 Q0) ?_
  refine Qa ?_
  refine WL.next ?_
  refine WC.ret ?_
  refine fin1' rfl Q0 ?_
  refine RetP.mk hs ?_
  simp_all [TNode.ext_iff]

theorem c_slices_Equal___int_int_ (s1 : (Sl Int)) (s2 : (Sl Int)) (w : World) (h_s1 : Ph.ok w s1) (h_s2 : Ph.ok w s2)  : Calls Tryz.prog 54 [Sl.v s1, Sl.v s2].toArray w (RetP w (Bo (decide (s1.l = s2.l)))) := by
 have hw := h_s1.lt
 refine enterN 26 Tryz.func54 rfl rfl rfl ?_
 have hs := Sat.start w
 refine WC.seq ?_
 refine Qa ?_
 refine WL.next ?_
 refine WC.seq' ?_
 refine WC.seq ?_
 refine Qm ?_
 refine WL.p Q0 (Yl.len_sl slu38 Q0) ?_
 refine Qm ?_
 refine WL.p Q0 (Yl.len_sl slu38 Q0) ?_
 refine WL.p Q0 (Yl.nei Q0 Q0) ?_
 refine WL.next ?_
 refine WC.condS Q0 (fun h1 => ?_) (fun h1 => ?_)
 ·
  replace h1 := not_eq_true h1
  replace h1 := of_decide_eq_false h1
  refine WC.seq ?_
  refine Qa ?_
  refine WL.next ?_
  refine WC.ret ?_
  refine At.thenret ?_
  refine fin1' rfl Q0 ?_
  refine RetP.mk hs ?_
  have hne : ¬ s1.l = s2.l := by
   intro h
   have h2 := congrArg List.length h
   try simp at h2
   omega
  simp only [hne, decide_false]
 ·
  replace h1 := not_eq_false h1
  replace h1 := of_decide_eq_true h1
  refine WC.skipn ?_
  refine WC.seq' ?_
  refine WC.seq ?_
  refine Qm ?_
  refine WL.p Q0 (Yl.len_sl slu38 Q0) ?_
  refine Qm ?_
  refine WL.next ?_
  refine WC.block ?_
  refine WC.loopC (ι := Nat) (fun k => s1.l.length - k) (fun k => [(13, I (k : Int))]) (fun _ => []) (fun k => decide (s1.l = s2.l) = decide (s1.l.drop k = s2.l.drop k)) [(0, _), (1, _), (10, _), (12, _)] 0 (hs) ⟨by rfl, by rfl, by rfl, by rfl, trivial⟩ ⟨by rfl, trivial⟩ ?_ ?_
  ·
   simp
  clear hs; rintro k w hJ hs
  simp only [List.nil_append] at hs
  refine WC.seq ?_
  refine WL.p Q0 (Yl.lss Q0 Q0) ?_
  refine WL.next ?_
  refine WC.seq' ?_
  refine WC.condS Q0 (fun h2 => ?_) (fun h2 => ?_)
  ·
   replace h2 := of_decide_eq_true h2
   obtain ⟨d, hd⟩ := exists_get (l := s1.l) (k := k) Q7
   obtain ⟨d2, hd2⟩ := exists_get (l := s2.l) (k := k) Q7
   rw [drop_cons hd, drop_cons hd2] at hJ
   refine WC.skipn ?_
   refine WC.seq' ?_
   refine WC.block ?_
   refine WC.seq ?_
   refine Qm ?_
   refine Qa ?_
   refine WL.next ?_
   refine WC.quietn mixed Q6 hs ?_
   refine WQ.p Q0 (fun w hs => Yl.move Q0) ?_
   refine WQ.p Q0 (fun w hs => Yl.move Q0) ?_
   refine WQ.p Q0 (fun w hs => Yl.indexAddr slt38 Q0 Q0 (Ph.old h_s1 hs) Q0 (hd)) ?_
   refine WQ.p Q0 (fun w hs => Yl.loadC0 sca3 Q0 (Sl.Ok.at_ (Ph.old h_s1 hs) (by assumption)).2 Q0) ?_
   refine WQ.p Q0 (fun w hs => Yl.move Q0) ?_
   refine WQ.p Q0 (fun w hs => Yl.move Q0) ?_
   refine WQ.p Q0 (fun w hs => Yl.indexAddr slt38 Q0 Q0 (Ph.old h_s2 hs) Q0 (hd2)) ?_
   refine WQ.p Q0 (fun w hs => Yl.loadC0 sca3 Q0 (Sl.Ok.at_ (Ph.old h_s2 hs) (by assumption)).2 Q0) ?_
   refine WQ.p Q0 (fun w hs => Yl.nei Q0 Q0) ?_
   refine WQ.next ?_
   clear hs; intro w hs
   refine WC.condS Q0 (fun h3 => ?_) (fun h3 => ?_)
   ·
    replace h3 := not_eq_true h3
    replace h3 := of_decide_eq_false h3
    refine WC.seq ?_
    refine Qa ?_
    refine WL.next ?_
    refine WC.ret ?_
    refine At.blockret ?_
    refine At.thenret ?_
    refine At.thenret ?_
    refine At.blockret ?_
    refine At.thenret ?_
    refine fin1' rfl Q0 ?_
    refine RetP.mk hs ?_
    rw [hJ]; simp_all
   ·
    replace h3 := not_eq_false h3
    replace h3 := of_decide_eq_true h3
    refine WC.skip ?_
    refine At.blocknormal ?_
    refine At.then_ ?_
    refine WC.region ?_
    refine WL.p Q0 (Yl.add Q0 Q0 Q7) ?_
    refine Qm ?_
    refine WL.nil ?_
    refine At.roundC (k + 1) (hs.only Q2) ⟨by rfl, by rfl, by rfl, by rfl, trivial⟩ ⟨by rfl, trivial⟩ ?_ ?_
    ·
     omega
    ·
     rw [hJ]; simp_all
  ·
   replace h2 := of_decide_eq_false h2
   rw [drop_out (l := s1.l) Q7, drop_out (l := s2.l) Q7] at hJ
   refine WC.exit ?_
   refine At.thenexit ?_
   refine At.thenexit ?_
   refine At.blockexit ?_
   refine At.then_ ?_
   refine WC.seq ?_
   refine Qa ?_
   refine WL.next ?_
   refine WC.ret ?_
   refine fin1' rfl Q0 ?_
   refine RetP.mk hs ?_
   rw [hJ]; simp_all

theorem c_impl_EqualBuilders (a : PBuilder) (b : PBuilder) (w : World) (h_a : Ph.ok w a) (h_b : Ph.ok w b)  : Calls Tryz.prog 20 [.agg #[Sl.v a.nodes, Sl.v a.opn], .agg #[Sl.v b.nodes, Sl.v b.opn]].toArray w (RetP w (Bo (decide (a.lg = b.lg)))) := by
 refine enterN 17 Tryz.func20 rfl rfl rfl ?_
 have hs := Sat.start w
 refine WC.seq ?_
 refine WL.r Q0 (Yr.box hs Q0 Q0) ?_
 clear hs; rintro _ w ⟨b1, rfl, hb, hs⟩; clear hb
 refine WL.r Q0 (Yr.box hs Q0 Q0) ?_
 clear hs; rintro _ w ⟨b2, rfl, hb, hs⟩; clear hb
 refine Qa ?_
 refine WL.next ?_
 refine WC.seq ?_
 refine WL.p Q0 (Yl.fieldAddr fa40_0 Q0) ?_
 refine WL.p Q0 (Yl.loadB sca37 Q0 hs Q1 Q0) ?_
 refine WL.p Q0 (Yl.fieldAddr fa40_0 Q0) ?_
 refine WL.p Q0 (Yl.loadB sca37 Q0 hs Q1 Q0) ?_
 refine WL.callp hs Q0 (Yc.func Q0 fn52) (c_slices_EqualFunc___impl_Node___impl_Node_impl_Node_impl_Node_ _ _ 53 _ (fun x y => decide (x.lg = y.lg)) _ (Ph.old h_a.nodes hs) (Ph.old h_b.nodes hs) fn53 (fun x hx y hy w1 hb1 => c_impl_equalNodes x y w1 (Ph.ext hb1 ((Ph.old h_a.nodes hs).elems x hx)) (Ph.ext hb1 ((Ph.old h_b.nodes hs).elems y hy)))) ?_
 clear hs; intro w hs
 refine Qm ?_
 refine WL.split (d := 10) Q0 (fun h1 => ?_) (fun h1 => ?_)
 ·
  refine WL.run (d := 10) Q0 Q0 ?_
  refine WL.p Q0 (Yl.fieldAddr fa40_1 Q0) ?_
  refine WL.run (d := 10) Q0 Q0 ?_
  refine WL.p Q0 (Yl.loadB sca38 Q0 hs Q1 Q0) ?_
  refine WL.run (d := 10) Q0 Q0 ?_
  refine WL.p Q0 (Yl.fieldAddr fa40_1 Q0) ?_
  refine WL.run (d := 10) Q0 Q0 ?_
  refine WL.p Q0 (Yl.loadB sca38 Q0 hs Q1 Q0) ?_
  refine WL.run (d := 10) Q0 Q0 ?_
  refine WL.callp hs Q0 (Yc.func Q0 fn54) (c_slices_Equal___int_int_ _ _ _ (Ph.old h_a.opn hs) (Ph.old h_b.opn hs)) ?_
  clear hs; intro w hs
  refine WL.p Q0 (Yl.pickT Q0 Q0) ?_
  refine Qa ?_
  refine WL.next ?_
  refine WC.ret ?_
  refine fin1' rfl Q0 ?_
  refine RetP.mk hs ?_
  try simp only [eqWith_map] at *
  simp_all [TBuilder.ext_iff]
 ·
  refine WL.skip (d := 10) Q0 Q0 Q0 Q0 ?_
  refine WL.skip (d := 10) Q0 Q0 Q0 Q0 ?_
  refine WL.skip (d := 10) Q0 Q0 Q0 Q0 ?_
  refine WL.skip (d := 10) Q0 Q0 Q0 Q0 ?_
  refine WL.skip (d := 10) Q0 Q0 Q0 Q0 ?_
  refine WL.p Q0 (Yl.pickF Q0 Q0) ?_
  refine Qa ?_
  refine WL.next ?_
  refine WC.ret ?_
  refine fin1' rfl Q0 ?_
  refine RetP.mk hs ?_
  try simp only [eqWith_map] at *
  simp_all [TBuilder.ext_iff]

theorem c_laws_sameStrings (a : (Sl Str)) (b : (Sl Str)) (w : World) (h_a : Ph.ok w a) (h_b : Ph.ok w b)  : Calls Tryz.prog 21 [Sl.v a, Sl.v b].toArray w (RetP w (Bo (decide (a.l = b.l)))) := by
 have hw := h_a.lt
 refine enterN 26 Tryz.func21 rfl rfl rfl ?_
 have hs := Sat.start w
 refine WC.seq ?_
 refine Qa ?_
 refine WL.next ?_
 refine WC.seq' ?_
 refine WC.seq ?_
 refine Qm ?_
 refine WL.p Q0 (Yl.len_sl slu48 Q0) ?_
 refine Qm ?_
 refine WL.p Q0 (Yl.len_sl slu48 Q0) ?_
 refine WL.p Q0 (Yl.nei Q0 Q0) ?_
 refine WL.next ?_
 refine WC.condS Q0 (fun h1 => ?_) (fun h1 => ?_)
 ·
  replace h1 := not_eq_true h1
  replace h1 := of_decide_eq_false h1
  refine WC.seq ?_
  refine Qa ?_
  refine WL.next ?_
  refine WC.ret ?_
  refine At.thenret ?_
  refine fin1' rfl Q0 ?_
  refine RetP.mk hs ?_
  have hne : ¬ a.l = b.l := by
   intro h
   have h2 := congrArg List.length h
   try simp at h2
   omega
  simp only [hne, decide_false]
 ·
  replace h1 := not_eq_false h1
  replace h1 := of_decide_eq_true h1
  refine WC.skipn ?_
  refine WC.seq' ?_
  refine WC.seq ?_
  refine Qa ?_
  refine WL.next ?_
  refine WC.block ?_
  refine WC.loopC (ι := Nat) (fun k => a.l.length - k) (fun k => [(5, I (k : Int))]) (fun _ => []) (fun k => decide (a.l = b.l) = decide (a.l.drop k = b.l.drop k)) [(0, _), (1, _), (10, _)] 0 (hs) ⟨by rfl, by rfl, by rfl, trivial⟩ ⟨by rfl, trivial⟩ ?_ ?_
  ·
   simp
  clear hs; rintro k w hJ hs
  simp only [List.nil_append] at hs
  refine WC.seq' ?_
  refine WC.seq ?_
  refine Qm ?_
  refine Qm ?_
  refine WL.p Q0 (Yl.len_sl slu48 Q0) ?_
  refine WL.p Q0 (Yl.lss Q0 Q0) ?_
  refine WL.next ?_
  refine WC.condS Q0 (fun h2 => ?_) (fun h2 => ?_)
  ·
   replace h2 := of_decide_eq_true h2
   obtain ⟨d, hd⟩ := exists_get (l := a.l) (k := k) Q7
   obtain ⟨d2, hd2⟩ := exists_get (l := b.l) (k := k) Q7
   rw [drop_cons hd, drop_cons hd2] at hJ
   refine WC.skipn ?_
   refine WC.seq' ?_
   refine WC.block ?_
   refine WC.quietn mixed Q6 hs ?_
   refine WQ.p Q0 (fun w hs => Yl.move Q0) ?_
   refine WQ.p Q0 (fun w hs => Yl.move Q0) ?_
   refine WQ.p Q0 (fun w hs => Yl.indexAddr slt48 Q0 Q0 (Ph.old h_a hs) Q0 (hd)) ?_
   refine WQ.p Q0 (fun w hs => Yl.loadC0 sca9 Q0 (Sl.Ok.at_ (Ph.old h_a hs) (by assumption)).2 Q0) ?_
   refine WQ.p Q0 (fun w hs => Yl.move Q0) ?_
   refine WQ.p Q0 (fun w hs => Yl.move Q0) ?_
   refine WQ.p Q0 (fun w hs => Yl.indexAddr slt48 Q0 Q0 (Ph.old h_b hs) Q0 (hd2)) ?_
   refine WQ.p Q0 (fun w hs => Yl.loadC0 sca9 Q0 (Sl.Ok.at_ (Ph.old h_b hs) (by assumption)).2 Q0) ?_
   refine WQ.p Q0 (fun w hs => Yl.nes Q0 Q0) ?_
   refine WQ.next ?_
   clear hs; intro w hs
   refine WC.condS Q0 (fun h3 => ?_) (fun h3 => ?_)
   ·
    replace h3 := not_eq_true h3
    replace h3 := of_decide_eq_false h3
    refine WC.seq ?_
    refine Qa ?_
    refine WL.next ?_
    refine WC.ret ?_
    refine At.blockret ?_
    refine At.thenret ?_
    refine At.thenret ?_
    refine At.blockret ?_
    refine At.thenret ?_
    refine fin1' rfl Q0 ?_
    refine RetP.mk hs ?_
    rw [hJ]; simp_all
   ·
    replace h3 := not_eq_false h3
    replace h3 := of_decide_eq_true h3
    refine WC.skip ?_
    refine At.blocknormal ?_
    refine At.then_ ?_
    refine WC.region ?_
    refine Qm ?_
    refine WL.p Q0 (Yl.add Q0 Q0 Q7) ?_
    refine Qa ?_
    refine WL.nil ?_
    refine At.roundC (k + 1) (hs.only Q2) ⟨by rfl, by rfl, by rfl, trivial⟩ ⟨by rfl, trivial⟩ ?_ ?_
    ·
     omega
    ·
     rw [hJ]; simp_all
  ·
   replace h2 := of_decide_eq_false h2
   rw [drop_out (l := a.l) Q7, drop_out (l := b.l) Q7] at hJ
   refine WC.exit ?_
   refine At.thenexit ?_
   refine At.thenexit ?_
   refine At.blockexit ?_
   refine At.then_ ?_
   refine WC.seq ?_
   refine Qa ?_
   refine WL.next ?_
   refine WC.ret ?_
   refine fin1' rfl Q0 ?_
   refine RetP.mk hs ?_
   rw [hJ]; simp_all

theorem c_impl_IsPassive (l : (Sl TLine)) (w : World) (h_l : Ph.ok w l)  : Calls Tryz.prog 22 [Sl.v l].toArray w (RetP w (Bo (isPassive l.l))) := by
 have hw := h_l.lt
 refine enterN 20 Tryz.func22 rfl rfl rfl ?_
 have hs := Sat.start w
 refine WC.seq ?_
 refine Qa ?_
 refine WL.next ?_
 refine WC.seq' ?_
 refine WC.seq ?_
 refine Qm ?_
 refine WL.p Q0 (Yl.len_sl slu45 Q0) ?_
 refine Qm ?_
 refine WL.next ?_
 refine WC.block ?_
 refine WC.loopC (ι := Nat) (fun k => l.l.length - k) (fun k => [(7, I (k : Int))]) (fun _ => []) (fun k => isPassive l.l = isPassive (l.l.drop k)) [(0, _), (5, _), (6, _)] 0 (hs) ⟨by rfl, by rfl, by rfl, trivial⟩ ⟨by rfl, trivial⟩ ?_ ?_
 ·
  simp
 clear hs; rintro k w hJ hs
 simp only [List.nil_append] at hs
 refine WC.seq ?_
 refine WL.p Q0 (Yl.lss Q0 Q0) ?_
 refine WL.next ?_
 refine WC.seq' ?_
 refine WC.condS Q0 (fun h1 => ?_) (fun h1 => ?_)
 ·
  replace h1 := of_decide_eq_true h1
  obtain ⟨d, hd⟩ := exists_get (l := l.l) (k := k) Q7
  rw [drop_cons hd] at hJ
  refine WC.skipn ?_
  refine WC.seq' ?_
  refine WC.block ?_
  refine WC.seq ?_
  refine WL.p Q0 (Yl.indexAddr slt45 Q0 Q0 (Ph.old h_l hs) Q0 (hd)) ?_
  refine WL.p Q0 (Yl.loadA agg54 Q0 (Sl.Ok.at_ (Ph.old h_l hs) (by assumption)).2 Q0) ?_
  refine WL.r Q0 (Yr.alloc hs zt54) ?_
  clear hs; rintro _ w ⟨b1, rfl, hb, hs⟩; clear hb
  refine WL.s (Yr.storeB hs Q0 Q0 Q0 Q5 Q3 Q0 (by exact szf54)) ?_
  clear hs; rintro _ w hs
  refine WL.next ?_
  refine WC.seq ?_
  refine WL.p Q0 (Yl.fieldAddr fa54_0 Q0) ?_
  refine WL.p Q0 (Yl.loadB sca3 Q0 hs Q1 Q0) ?_
  refine WL.p Q0 (Yl.eqi Q0 Q0) ?_
  refine Qm ?_
  refine WL.split (d := 14) Q0 (fun h2 => ?_) (fun h2 => ?_)
  ·
   replace h2 := of_decide_eq_true h2
   refine WL.skip (d := 14) Q0 Q0 Q0 Q0 ?_
   refine WL.skip (d := 14) Q0 Q0 Q0 Q0 ?_
   refine WL.skip (d := 14) Q0 Q0 Q0 Q0 ?_
   refine WL.p Q0 (Yl.pickT Q0 Q0) ?_
   refine WL.next ?_
   refine WC.condT Q0 ?_
   refine WC.seq ?_
   refine Qa ?_
   refine WL.next ?_
   refine WC.ret ?_
   refine At.blockret ?_
   refine At.thenret ?_
   refine At.thenret ?_
   refine At.blockret ?_
   refine At.thenret ?_
   refine fin1' rfl Q0 ?_
   refine RetP.mk hs ?_
   first
    | (simp [isPassive, hJ]; done)
    | (simp [isPassive, hJ]; omega)
    | simp_all [isPassive, hJ]
    | simp_all [isPassive]
  ·
   replace h2 := of_decide_eq_false h2
   refine WL.run (d := 14) Q0 Q0 ?_
   refine WL.p Q0 (Yl.fieldAddr fa54_0 Q0) ?_
   refine WL.run (d := 14) Q0 Q0 ?_
   refine WL.p Q0 (Yl.loadB sca3 Q0 hs Q1 Q0) ?_
   refine WL.run (d := 14) Q0 Q0 ?_
   refine WL.p Q0 (Yl.eqi Q0 Q0) ?_
   refine WL.p Q0 (Yl.pickF Q0 Q0) ?_
   refine WL.next ?_
   refine WC.condS Q0 (fun h3 => ?_) (fun h3 => ?_)
   ·
    replace h3 := of_decide_eq_true h3
    refine WC.seq ?_
    refine Qa ?_
    refine WL.next ?_
    refine WC.ret ?_
    refine At.blockret ?_
    refine At.thenret ?_
    refine At.thenret ?_
    refine At.blockret ?_
    refine At.thenret ?_
    refine fin1' rfl Q0 ?_
    refine RetP.mk hs ?_
    first
     | (simp [isPassive, hJ]; done)
     | (simp [isPassive, hJ]; omega)
     | simp_all [isPassive, hJ]
     | simp_all [isPassive]
   ·
    replace h3 := of_decide_eq_false h3
    refine WC.skip ?_
    refine At.blocknormal ?_
    refine At.then_ ?_
    refine WC.region ?_
    refine WL.p Q0 (Yl.add Q0 Q0 Q7) ?_
    refine Qm ?_
    refine WL.nil ?_
    refine At.roundC (k + 1) (hs.only Q2) ⟨by rfl, by rfl, by rfl, trivial⟩ ⟨by rfl, trivial⟩ ?_ ?_
    ·
     omega
    ·
     rw [hJ]; simp_all [isPassive]
 ·
  replace h1 := of_decide_eq_false h1
  rw [drop_out (l := l.l) Q7] at hJ
  refine WC.exit ?_
  refine At.thenexit ?_
  refine At.thenexit ?_
  refine At.blockexit ?_
  refine At.then_ ?_
  refine WC.seq ?_
  refine Qa ?_
  refine WL.next ?_
  refine WC.ret ?_
  refine fin1' rfl Q0 ?_
  refine RetP.mk hs ?_
  first
   | (simp [isPassive, hJ]; done)
   | (simp [isPassive, hJ]; omega)
   | simp_all [isPassive, hJ]
   | simp_all [isPassive]

theorem c_spec_DrawRunLine (code : (Sl UInt8)) (w : World) (h_code : Ph.ok w code)  : Calls Tryz.prog 23 [Sl.v code].toArray w (Ret w (fun v w' => ∃ (b : PBuilder) (sh : Sl PSheet) (y : TLine), v = .tuple #[.agg (Ph.enc b).toArray, sh.v, .agg (Ph.enc y).toArray] ∧ (Ph.ok w' y) ∧ (b.lg.size ≤ 980000 ∧ lsz TSheet.size (sh.l.map PSheet.lg) ≤ 200 ∧ y.size ≤ 200) ∧ Fresh2 w b sh w')) := by
 refine enterN 25 Tryz.func23 rfl rfl rfl ?_
 have hs := Sat.start w
 refine WC.seq ?_
 refine WL.r Q0 (Yr.alloc hs zt40) ?_
 clear hs; rintro _ w ⟨b1, rfl, hb, hs⟩; clear hb
 refine Qa ?_
 refine WL.r Q0 (Yr.alloc hs zt54) ?_
 clear hs; rintro _ w ⟨b2, rfl, hb, hs⟩; clear hb
 refine WL.next ?_
 refine WC.seq ?_
 refine Qm ?_
 refine WL.calln hs Q0 (Yc.func Q0 fn25) (c_spec_l1New _ _ (Ph.old h_code hs)) ?_
 clear hs; intro c3 w hs
 refine Qa ?_
 refine WL.next ?_
 refine WC.seq ?_
 refine Qm ?_
 refine WL.calld hs (T := 93) (b := code) (c := c3) Q2 Q0 (Yc.func Q0 fn45) (c_spec_l6Any c3 code _ (hs.cur Q1) (Apart.new (by first | assumption) hs Q1)) ?_
 clear hs; intro v w ho hR hs
 obtain ⟨x4, rfl, _, hx4, hf4⟩ := hR
 obtain ⟨F4, hs⟩ := hs.addF ho hf4
 clear ho hf4
 refine WL.r Q0 (Yr.alloc hs zt40) ?_
 clear hs; rintro _ w ⟨b5, rfl, hb, hs⟩; clear hb
 refine WL.s (Yr.storeB hs Q0 Q0 Q0 Q5 Q3 Q0 (by exact szf40)) ?_
 clear hs; rintro _ w hs
 refine WL.next ?_
 refine WC.seq ?_
 refine Qm ?_
 refine WL.calld hs (T := 93) (b := code) (c := c3) Q2 Q0 (Yc.func Q0 fn42) (c_spec_l7Sheets c3 code _ (hs.cur Q1) (Apart.new (by first | assumption) hs Q1)) ?_
 clear hs; intro v w ho hR hs
 obtain ⟨x6, rfl, _, hx6, hf6⟩ := hR
 obtain ⟨F6, hs⟩ := hs.addF ho hf6
 clear ho hf6
 refine Qa ?_
 refine WL.next ?_
 refine WC.seq ?_
 refine Qm ?_
 refine WL.calld hs (T := 93) (b := code) (c := c3) Q2 Q0 (Yc.func Q0 fn48) (c_spec_l8Lines c3 code _ (hs.cur Q1) (Apart.new (by first | assumption) hs Q1)) ?_
 clear hs; intro v w ho hR hs
 obtain ⟨x7, rfl, _, hx7, hf7⟩ := hR
 obtain ⟨F7, hs⟩ := hs.addF ho hf7
 clear ho hf7
 obtain ⟨yl, hyl⟩ := exists_get (l := x7.l) (k := x7.l.length - 1) (by have := hx7.1; omega)
 have hyz := lsum_le (f := TLine.size) (List.mem_of_getElem? hyl)
 have hyw := hx7.2; simp only [lsz] at hyw hyz
 refine Qa ?_
 refine WL.next ?_
 refine WC.anynX (K := [box b1 _ _, box b2 _ _]) mixed hs Q2 ?_
 clear hs; intro w hs
 refine WA.p (i := 0) Q0 Q6 Q6 Q6 Q0 (hs.only Q2) (fun w hs => Yl.loadAB agg40 Q0 hs Q1 Q0 Q0) ?_
 refine WA.p (i := 1) Q0 Q6 Q6 Q6 Q0 (hs.only Q2) (fun w hs => Yl.move Q0) ?_
 refine WA.p (i := 2) Q0 Q6 Q6 Q6 Q0 (hs.only Q2) (fun w hs => Yl.move Q0) ?_
 refine WA.p (i := 3) Q0 Q6 Q6 Q6 Q0 (hs.only Q2) (fun w hs => Yl.move Q0) ?_
 refine WA.p (i := 4) Q0 Q6 Q6 Q6 Q0 (hs.only Q2) (fun w hs => Yl.len_sl slu45 Q0) ?_
 refine WA.p (i := 5) Q0 Q6 Q6 Q6 Q0 (hs.only Q2) (fun w hs => Yl.sub_ Q0 Q0 Q7) ?_
 refine WA.p (i := 6) Q0 Q6 Q6 Q6 Q0 (hs.only Q2) (fun w hs => Yl.indexAddr slt45 Q0 Q0 (hs.okow (x := x7) (F := F7) Q1) (by first | rfl | omega) (hyl)) ?_
 refine WA.p (i := 7) Q0 Q6 Q6 Q6 Q0 (hs.only Q2) (fun w hs => Yl.loadA agg54 Q0 (Sl.Ok.at_ (hs.okow (x := x7) (F := F7) Q1) (by assumption)).2 Q0) ?_
 refine WA.s (i := 8) Q6 Q0 (Yr.storeB hs Q0 Q0 Q0 Q5 Q3 Q0 (by exact szf40)) (by rintro _ w hs; exact hs.only Q2) ?_
 clear hs; rintro _ w hs
 refine WA.p (i := 9) Q0 Q6 Q6 Q6 Q0 (hs.only Q2) (fun w hs => Yl.assign Q0) ?_
 refine WA.s (i := 10) Q6 Q0 (Yr.storeB hs Q0 Q0 Q0 Q5 Q3 Q0 (by exact szf54)) (by rintro _ w hs; exact hs.only Q2) ?_
 clear hs; rintro _ w hs
 refine WA.donen Q6 ?_
 refine WC.ret ?_
 refine finT (rs := [.cell 2 40, .tmp 3, .cell 4 54]) (vs := [_, _, _]) rfl (by decide) hs (RV.cell agg40 Q0 Q1 Q0 (RV.tmp Q0 (RV.cell agg54 Q0 Q1 Q0 RV.nil))) ?_
 refine Ret.mk hs ?_
 refine ⟨x4, x6, (⟨yl.op, yl.text⟩ : TLine), rfl, ⟨(by first | exact (Sl.Ok.elem (hs.okow (x := x7) (F := F7) Q1) hyl).op | trivial | assumption | exact Flat.any (by assumption) | exact ⟨by omega, by omega⟩ | (show WfS _; unfold WfS; omega) | (show WfS _; unfold WfS; simp only [List.length_append, List.length_cons, List.length_nil] at *; omega) | (refine Ph.old ?_ hs; assumption)), (by first | exact (Sl.Ok.elem (hs.okow (x := x7) (F := F7) Q1) hyl).text | trivial | assumption | exact Flat.any (by assumption) | exact ⟨by omega, by omega⟩ | (show WfS _; unfold WfS; omega) | (show WfS _; unfold WfS; simp only [List.length_append, List.length_cons, List.length_nil] at *; omega) | (refine Ph.old ?_ hs; assumption))⟩, ?_, ?_⟩
 ·
  exact ⟨by omega, by omega, by (show yl.size ≤ 200; omega)⟩
 ·
  exact hs.fresh2 (x := x4) (F := F4) (y := x6) (G := F6) Q2

theorem c_spec_ColorOf (l : (Sl PSheet)) (name : Str) (w : World) (h_l : Ph.ok w l)  : Calls Tryz.prog 47 [Sl.v l, S name].toArray w (RetP w (I (colorOf name l.l))) := by
 have hw := h_l.lt
 refine enterN 45 Tryz.func47 rfl rfl rfl ?_
 have hs := Sat.start w
 refine WC.seq ?_
 refine Qa ?_
 refine WL.next ?_
 refine WC.seq' ?_
 refine WC.seq ?_
 refine Qm ?_
 refine WL.p Q0 (Yl.len_sl slu30 Q0) ?_
 refine WL.p Q0 (Yl.sub_ Q0 Q0 Q7) ?_
 refine Qa ?_
 refine WL.next ?_
 refine WC.block ?_
 refine WC.loopC (ι := Nat) (fun k => k) (fun k => [(5, I ((k : Int) - 1))]) (fun _ => []) (fun k => k ≤ l.l.length ∧ colSR name l.l.reverse = colSR name (l.l.take k).reverse) [(0, _), (1, _)] l.l.length (hs) ⟨by rfl, by rfl, trivial⟩ ⟨by rfl, trivial⟩ ?_ ?_
 ·
  exact ⟨Nat.le_refl _, by rw [List.take_length]⟩
 clear hs; rintro k w ⟨hJ1, hJ2⟩ hs
 simp only [List.nil_append] at hs
 have hd2x : ∃ d : PSheet, k ≠ 0 → l.l[k - 1]? = some d := by
  by_cases h9 : k = 0
  · exact ⟨⟨⟨[], none, 0⟩⟩, fun h => absurd h9 h⟩
  · exact ⟨l.l[k - 1]'Q7, fun _ => List.getElem?_eq_getElem Q7⟩
 obtain ⟨d, hd⟩ := hd2x
 refine WC.seq' ?_
 refine WC.seq ?_
 refine Qm ?_
 refine WL.p Q0 (Yl.geq Q0 Q0) ?_
 refine WL.next ?_
 refine WC.condS Q0 (fun h1 => ?_) (fun h1 => ?_)
 ·
  replace h1 := of_decide_eq_true h1
  have hwd := (Sl.Ok.elem h_l (hd Q7)).rules.lt
  refine WC.skipn ?_
  refine WC.seq' ?_
  refine WC.block ?_
  refine WC.seq ?_
  refine Qm ?_
  refine Qm ?_
  refine WL.p Q0 (Yl.indexAddr slt30 Q0 Q0 (Ph.old h_l hs) (by first | rfl | omega) ((hd Q7))) ?_
  refine WL.p Q0 (Yl.fieldAddr fa27_0 Q0) ?_
  refine WL.p Q0 (Yl.loadC sca25 Q0 (Sl.Ok.at_ (Ph.old h_l hs) ((hd Q7))).2 Q0) ?_
  refine WL.p Q0 (Yl.len_sl slu25 Q0) ?_
  refine WL.p Q0 (Yl.sub_ Q0 Q0 Q7) ?_
  refine Qa ?_
  refine WL.next ?_
  refine WC.block ?_
  refine WC.loopC (ι := Nat) (fun m => m) (fun m => [(6, I ((m : Int) - 1))]) (fun _ => []) (fun m => m ≤ d.rules.l.length ∧ colR name d.rules.l.reverse = colR name (d.rules.l.take m).reverse) [(0, _), (1, _), (5, _), (11, _)] d.rules.l.length (hs) ⟨by rfl, by rfl, by rfl, by rfl, trivial⟩ ⟨by rfl, trivial⟩ ?_ ?_
  ·
   exact ⟨Nat.le_refl _, by rw [List.take_length]⟩
  clear hs; rintro m w ⟨hI1, hI2⟩ hs
  simp only [List.nil_append] at hs
  have hd3x : ∃ x : TRule, m ≠ 0 → d.rules.l[m - 1]? = some x := by
   by_cases h9 : m = 0
   · exact ⟨⟨[], 0⟩, fun h => absurd h9 h⟩
   · exact ⟨d.rules.l[m - 1]'Q7, fun _ => List.getElem?_eq_getElem Q7⟩
  obtain ⟨x, hx⟩ := hd3x
  refine WC.seq' ?_
  refine WC.seq ?_
  refine Qm ?_
  refine WL.p Q0 (Yl.geq Q0 Q0) ?_
  refine WL.next ?_
  refine WC.condS Q0 (fun h2 => ?_) (fun h2 => ?_)
  ·
   replace h2 := of_decide_eq_true h2
   refine WC.skipn ?_
   refine WC.seq' ?_
   refine WC.block ?_
   refine WC.seq ?_
   refine Qm ?_
   refine Qm ?_
   refine WL.p Q0 (Yl.indexAddr slt30 Q0 Q0 (Ph.old h_l hs) (by first | rfl | omega) ((hd Q7))) ?_
   refine WL.p Q0 (Yl.fieldAddr fa27_0 Q0) ?_
   refine WL.p Q0 (Yl.loadC sca25 Q0 (Sl.Ok.at_ (Ph.old h_l hs) ((hd Q7))).2 Q0) ?_
   refine Qm ?_
   refine WL.p Q0 (Yl.indexAddr slt25 Q0 Q0 (Ph.old (Sl.Ok.elem h_l (hd Q7)).rules hs) (by first | rfl | omega) ((hx Q7))) ?_
   refine WL.p Q0 (Yl.fieldAddr fa36_0 Q0) ?_
   refine WL.p Q0 (Yl.loadC sca9 Q0 (Sl.Ok.at_ (Ph.old (Sl.Ok.elem h_l (hd Q7)).rules hs) ((hx Q7))).2 Q0) ?_
   refine Qm ?_
   refine WL.p Q0 (Yl.eqs Q0 Q0) ?_
   refine WL.next ?_
   refine WC.condS Q0 (fun h3 => ?_) (fun h3 => ?_)
   ·
    replace h3 := of_decide_eq_true h3
    refine WC.seq ?_
    refine Qm ?_
    refine Qm ?_
    refine WL.p Q0 (Yl.indexAddr slt30 Q0 Q0 (Ph.old h_l hs) (by first | rfl | omega) ((hd Q7))) ?_
    refine WL.p Q0 (Yl.fieldAddr fa27_0 Q0) ?_
    refine WL.p Q0 (Yl.loadC sca25 Q0 (Sl.Ok.at_ (Ph.old h_l hs) ((hd Q7))).2 Q0) ?_
    refine Qm ?_
    refine WL.p Q0 (Yl.indexAddr slt25 Q0 Q0 (Ph.old (Sl.Ok.elem h_l (hd Q7)).rules hs) (by first | rfl | omega) ((hx Q7))) ?_
    refine WL.p Q0 (Yl.fieldAddr fa36_1 Q0) ?_
    refine WL.p Q0 (Yl.loadC sca3 Q0 (Sl.Ok.at_ (Ph.old (Sl.Ok.elem h_l (hd Q7)).rules hs) ((hx Q7))).2 Q0) ?_
    refine Qa ?_
    refine WL.next ?_
    refine WC.ret ?_
    refine At.blockret ?_
    refine At.thenret ?_
    refine At.thenret ?_
    refine At.blockret ?_
    refine At.blockret ?_
    refine At.thenret ?_
    refine At.thenret ?_
    refine At.blockret ?_
    refine At.thenret ?_
    refine fin1' rfl Q0 ?_
    refine RetP.mk hs ?_
    rw [colorOf, hJ2, colSR_some Q7 (hd Q7) (hI2.trans (colR_yes Q7 (hx Q7) (by assumption)))]; rfl
   ·
    replace h3 := of_decide_eq_false h3
    refine WC.skip ?_
    refine At.blocknormal ?_
    refine At.then_ ?_
    refine WC.region ?_
    refine Qm ?_
    refine WL.p Q0 (Yl.sub_ Q0 Q0 Q7) ?_
    refine Qa ?_
    refine WL.nil ?_
    refine At.roundC (m - 1) (hs.only Q2) ⟨by rfl, by rfl, by rfl, by rfl, trivial⟩ ⟨by exact congrArg (fun z => some (I z)) Q7, trivial⟩ ?_ ?_
    ·
     omega
    ·
     exact ⟨by omega, by rw [hI2]; exact colR_no Q7 (hx Q7) (by assumption)⟩
  ·
   replace h2 := of_decide_eq_false h2
   refine WC.exit ?_
   refine At.thenexit ?_
   refine At.thenexit ?_
   refine At.blockexit ?_
   refine At.blocknormal ?_
   refine At.then_ ?_
   refine WC.region ?_
   refine Qm ?_
   refine WL.p Q0 (Yl.sub_ Q0 Q0 Q7) ?_
   refine Qa ?_
   refine WL.nil ?_
   refine At.roundC (k - 1) (hs.only Q2) ⟨by rfl, by rfl, trivial⟩ ⟨by exact congrArg (fun z => some (I z)) Q7, trivial⟩ ?_ ?_
   ·
    omega
   ·
    exact ⟨by omega, by rw [hJ2]; exact colSR_none Q7 (hd Q7) (by rw [hI2, show m = 0 from by omega]; rfl)⟩
 ·
  replace h1 := of_decide_eq_false h1
  refine WC.exit ?_
  refine At.thenexit ?_
  refine At.thenexit ?_
  refine At.blockexit ?_
  refine At.then_ ?_
  refine WC.seq ?_
  refine Qa ?_
  refine WL.next ?_
  refine WC.ret ?_
  refine fin1' rfl Q0 ?_
  refine RetP.mk hs ?_
  rw [colorOf, hJ2, show k = 0 from by omega]; rfl

theorem c_spec_MarkupOf (s : Str) (w : World)  (hb : s.length ≤ 1048576) : Calls Tryz.prog 56 [S s].toArray w (RetP w (S (s.map mkB))) := by
 exact mo_spec s w hb

theorem c_spec_CountName (b : PBuilder) (name : Str) (w : World) (h_b : Ph.ok w b)  : Calls Tryz.prog 58 [.agg #[Sl.v b.nodes, Sl.v b.opn], S name].toArray w (RetP w (I (countN name b.nodes.l : Int))) := by
 have hw := h_b.nodes.lt
 refine enterN 25 Tryz.func58 rfl rfl rfl ?_
 have hs := Sat.start w
 refine WC.seq ?_
 refine WL.r Q0 (Yr.box hs Q0 Q0) ?_
 clear hs; rintro _ w ⟨b1, rfl, hb, hs⟩; clear hb
 refine Qa ?_
 refine WL.next ?_
 refine WC.seq ?_
 refine Qa ?_
 refine WL.next ?_
 refine WC.seq' ?_
 refine WC.seq ?_
 refine Qa ?_
 refine WL.next ?_
 refine WC.block ?_
 refine WC.loopC (ι := Nat × Nat) (fun ⟨k, m⟩ => b.nodes.l.length - k) (fun ⟨k, m⟩ => [(6, I (k : Int)), (5, I (m : Int))]) (fun _ => []) (fun ⟨k, m⟩ => m ≤ k ∧ countN name b.nodes.l = m + countN name (b.nodes.l.drop k)) [(0, _), (1, _), (2, _), (4, _)] (0, 0) (hs) ⟨by rfl, by rfl, by rfl, by rfl, trivial⟩ ⟨by rfl, by rfl, trivial⟩ ?_ ?_
 ·
  exact ⟨Nat.le_refl _, by simp⟩
 clear hs; rintro ⟨k, m⟩ w ⟨hJ1, hJ2⟩ hs
 simp only [List.nil_append] at hs
 refine WC.seq' ?_
 refine WC.seq ?_
 refine Qm ?_
 refine WL.p Q0 (Yl.fieldAddr fa40_0 Q0) ?_
 refine WL.p Q0 (Yl.loadB sca37 Q0 hs Q1 Q0) ?_
 refine WL.p Q0 (Yl.len_sl slu37 Q0) ?_
 refine WL.p Q0 (Yl.lss Q0 Q0) ?_
 refine WL.next ?_
 refine WC.condS Q0 (fun h1 => ?_) (fun h1 => ?_)
 ·
  replace h1 := of_decide_eq_true h1
  obtain ⟨d, hd⟩ := exists_get (l := b.nodes.l) (k := k) Q7
  rw [drop_cons hd] at hJ2
  refine WC.skipn ?_
  refine WC.seq' ?_
  refine WC.block ?_
  refine WC.seq ?_
  refine WL.p Q0 (Yl.fieldAddr fa40_0 Q0) ?_
  refine WL.p Q0 (Yl.loadB sca37 Q0 hs Q1 Q0) ?_
  refine Qm ?_
  refine WL.p Q0 (Yl.indexAddr slt37 Q0 Q0 (Ph.old h_b.nodes hs) Q0 (hd)) ?_
  refine WL.p Q0 (Yl.fieldAddr fa84_0 Q0) ?_
  refine WL.p Q0 (Yl.loadC sca9 Q0 (Sl.Ok.at_ (Ph.old h_b.nodes hs) (by assumption)).2 Q0) ?_
  refine Qm ?_
  refine WL.p Q0 (Yl.eqs Q0 Q0) ?_
  refine WL.next ?_
  refine WC.condS Q0 (fun h2 => ?_) (fun h2 => ?_)
  ·
   replace h2 := of_decide_eq_true h2
   refine WC.region ?_
   refine Qm ?_
   refine WL.p Q0 (Yl.add Q0 Q0 Q7) ?_
   refine Qa ?_
   refine WL.nil ?_
   refine At.blocknormal ?_
   refine At.then_ ?_
   refine WC.region ?_
   refine Qm ?_
   refine WL.p Q0 (Yl.add Q0 Q0 Q7) ?_
   refine Qa ?_
   refine WL.nil ?_
   refine At.roundC (k + 1, m + 1) (hs.only Q2) ⟨by rfl, by rfl, by rfl, by rfl, trivial⟩ ⟨by rfl, by rfl, trivial⟩ ?_ ?_
   ·
    show b.nodes.l.length - (k + 1) < b.nodes.l.length - k
    omega
   ·
    rw [countN_yes (by assumption)] at hJ2
    exact ⟨by omega, by omega⟩
  ·
   replace h2 := of_decide_eq_false h2
   refine WC.skip ?_
   refine At.blocknormal ?_
   refine At.then_ ?_
   refine WC.region ?_
   refine Qm ?_
   refine WL.p Q0 (Yl.add Q0 Q0 Q7) ?_
   refine Qa ?_
   refine WL.nil ?_
   refine At.roundC (k + 1, m) (hs.only Q2) ⟨by rfl, by rfl, by rfl, by rfl, trivial⟩ ⟨by rfl, by rfl, trivial⟩ ?_ ?_
   ·
    show b.nodes.l.length - (k + 1) < b.nodes.l.length - k
    omega
   ·
    rw [countN_no (by assumption)] at hJ2
    exact ⟨by omega, by omega⟩
 ·
  replace h1 := of_decide_eq_false h1
  rw [drop_out (l := b.nodes.l) Q7] at hJ2
  refine WC.exit ?_
  refine At.thenexit ?_
  refine At.thenexit ?_
  refine At.blockexit ?_
  refine At.then_ ?_
  refine WC.seq ?_
  refine Qm ?_
  refine Qa ?_
  refine WL.next ?_
  refine WC.ret ?_
  refine fin1' rfl Q0 ?_
  refine RetP.mk hs ?_
  rw [hJ2]; simp [countN]

theorem c_spec_RunLine (b : PBuilder) (sheets : (Sl PSheet)) (y : TLine) (w : World) (h_b : Ph.ok w b) (h_sheets : Ph.ok w sheets) (h_y : Ph.ok w y) (hb : b.lg.size ≤ 1048576) (hbt : y.text.length ≤ 1048576) : Calls Tryz.prog 24 [.agg #[Sl.v b.nodes, Sl.v b.opn], Sl.v sheets, .agg #[I y.op, S y.text]].toArray w (Ret w (fun v w' => ∃ x : PBuilder, v = .tuple #[.agg (Ph.enc x).toArray, S (if y.op = 1 then y.text.map mkB else []), S (runSaid b.lg (sheets.l.map PSheet.lg) y)] ∧ x.lg = runOut b.lg y ∧ Fresh w x w')) := by
 have hi1 := itoa_len (countN_wf y.text h_b.nodes.lt)
 have hi2 := itoa_len (colorOf_wf (name := y.text) (fun s hs9 x hx9 => (Sl.Ok.elems (h_sheets.elems s hs9).rules x hx9).color))
 refine enterN 73 Tryz.func24 rfl rfl rfl ?_
 have hs := Sat.start w
 refine WC.seq ?_
 refine WL.r Q0 (Yr.box hs Q0 Q0) ?_
 clear hs; rintro _ w ⟨b1, rfl, hb, hs⟩; clear hb
 refine WL.r Q0 (Yr.box hs Q0 Q0) ?_
 clear hs; rintro _ w ⟨b2, rfl, hb, hs⟩; clear hb
 refine WL.r Q0 (Yr.alloc hs zt40) ?_
 clear hs; rintro _ w ⟨b3, rfl, hb, hs⟩; clear hb
 refine Qa ?_
 refine Qa ?_
 refine WL.next ?_
 refine WC.seq ?_
 refine WL.p Q0 (Yl.loadAB agg40 Q0 hs Q1 Q0 Q0) ?_
 refine WL.call hs Q0 (Yc.func Q0 fn55) (c_spec_l6Copy _ _ (Ph.old h_b hs) (by exact hb)) ?_
 have hs0 := hs; clear hs; intro v w hb hR hs; clear hs
 obtain ⟨x4, rfl, hx4, hf4⟩ := hR
 obtain ⟨F4, hs⟩ := hf4.sat hs0 hb; clear hs0 hf4
 refine WL.r Q0 (Yr.alloc hs zt40) ?_
 clear hs; rintro _ w ⟨b5, rfl, hb, hs⟩; clear hb
 refine WL.s (Yr.storeB hs Q0 Q0 Q0 Q5 Q3 Q0 (by exact szf40)) ?_
 clear hs; rintro _ w hs
 refine WL.next ?_
 refine WC.seq' ?_
 refine WC.seq ?_
 refine WL.p Q0 (Yl.fieldAddr fa54_0 Q0) ?_
 refine WL.p Q0 (Yl.loadB sca3 Q0 hs Q1 Q0) ?_
 refine WL.next ?_
 refine WC.block ?_
 refine WC.seq ?_
 refine WL.p Q0 (Yl.eqi Q0 Q0) ?_
 refine Qa ?_
 refine WL.next ?_
 refine WC.condS Q0 (fun h1 => ?_) (fun h1 => ?_)
 ·
  replace h1 := of_decide_eq_true h1
  refine WC.anyn2 (c := box b3 _ _) mixed hs (by repeat (first | exact Ext.here | apply Ext.there)) ?_
  clear hs; intro w hs
  refine WA.p (i := 0) Q0 Q6 Q6 Q6 Q0 (hs.only Q2) (fun w hs => Yl.loadAB agg40 Q0 hs Q1 Q0 Q0) ?_
  refine WA.p (i := 1) Q0 Q6 Q6 Q6 Q0 (hs.only Q2) (fun w hs => Yl.fieldAddr fa54_1 Q0) ?_
  refine WA.p (i := 2) Q0 Q6 Q6 Q6 Q0 (hs.only Q2) (fun w hs => Yl.loadB sca9 Q0 hs Q1 Q0) ?_
  refine WA.callp2 (i := 3) hs (fun _ hs => hs.only Q2) Q6 Q0 Q0 (Yc.func Q0 fn56) (c_spec_MarkupOf _ _ (by exact hbt)) ?_
  clear hs; intro w hs
  refine WA.s (i := 4) Q6 Q0 (Yr.storeB hs Q0 Q0 Q0 Q5 Q3 Q0 (by exact szf40)) (by rintro _ w hs; exact hs.only Q2) ?_
  clear hs; rintro _ w hs
  refine WA.p (i := 5) Q0 Q6 Q6 Q6 Q0 (hs.only Q2) (fun w hs => Yl.assign Q0) ?_
  refine WA.p (i := 6) Q0 Q6 Q6 Q6 Q0 (hs.only Q2) (fun w hs => Yl.assign Q0) ?_
  refine WA.donen Q6 ?_
  refine WC.ret ?_
  refine At.blockret ?_
  refine At.thenret ?_
  refine fin3c rfl agg40 Q0 Q0 Q0 hs Q1 Q0 ?_
  refine Ret.mk hs ?_
  refine ⟨x4, ?_, ?_, hs.fresh Q1⟩
  · simp_all [runSaid, countN_lg, colorOf_lg, PBuilder.lg] <;> rfl
  · first
    | (simp_all [runOut, inR_true, inR_false]; done)
    | (rw [runOut, if_neg (by rintro ⟨a1, a2, a3⟩; simp only [inR_true, inR_false, PBuilder.lg, List.length_map] at *; first | omega | simp_all)]; assumption)
 ·
  replace h1 := of_decide_eq_false h1
  refine WC.seq ?_
  refine WL.p Q0 (Yl.eqi Q0 Q0) ?_
  refine Qa ?_
  refine WL.next ?_
  refine WC.condS Q0 (fun h2 => ?_) (fun h2 => ?_)
  ·
   replace h2 := of_decide_eq_true h2
   refine WC.seq' ?_
   refine WC.seq ?_
   refine WL.p Q0 (Yl.fieldAddr fa40_0 Q0) ?_
   refine WL.p Q0 (Yl.loadB sca37 Q0 hs Q1 Q0) ?_
   refine WL.p Q0 (Yl.len_sl slu37 Q0) ?_
   refine WL.callp hs Q0 (Yc.func Q0 fn39) (c_spec_l1In _ _ _ _) ?_
   clear hs; intro w hs
   refine Qm ?_
   refine WL.split (d := 26) Q0 (fun h3 => ?_) (fun h3 => ?_)
   ·
    replace h3 := inR_true.1 h3
    refine WL.run (d := 26) Q0 Q0 ?_
    refine WL.p Q0 (Yl.fieldAddr fa54_1 Q0) ?_
    refine WL.run (d := 26) Q0 Q0 ?_
    refine WL.p Q0 (Yl.loadB sca9 Q0 hs Q1 Q0) ?_
    refine WL.run (d := 26) Q0 Q0 ?_
    refine WL.callp hs Q0 (Yc.func Q0 fn37) (c_spec_IsName _ _ (Ph.old h_y.text hs)) ?_
    clear hs; intro w hs
    refine WL.p Q0 (Yl.pickT Q0 Q0) ?_
    refine WL.next ?_
    refine WC.condS Q0 (fun h4 => ?_) (fun h4 => ?_)
    ·
     refine WC.region ?_
     refine WL.p Q0 (Yl.fieldAddr fa40_0 Q0) ?_
     refine WL.p Q0 (Yl.loadB sca37 Q0 hs Q1 Q0) ?_
     refine WL.p Q0 (Yl.fieldAddr fa54_1 Q0) ?_
     refine WL.p Q0 (Yl.loadB sca9 Q0 hs Q1 Q0) ?_
     refine WL.p Q0 (Yl.build bt84 Q0 Q4) ?_
     refine WL.r Q0 (Yr.buildSlice hs sll37 Q0 Q0 Q0 Q4 Q0) ?_
     clear hs; rintro _ w ⟨b6, rfl, hb, hs⟩; clear hb
     obtain ⟨K7_0, K7_1, hfl7, hs⟩ := PBuilder.split (hs.sel (D := [ow x4 F4]) Q2)
     try simp only [List.cons_append, List.nil_append] at hs
     replace hs := Sat.nilsl (α := TAttr) hs
     replace hs := PNode.join (⟨y.text, ([] : Str), 0, ⟨[], none, 0⟩⟩ : PNode) (hs.sel (D := [ow (⟨[], none, 0⟩ : (Sl TAttr)) []]) Q2) (by first | exact (Ph.old h_y.text hs) | (refine Ph.old ?_ hs; assumption) ) (by first | exact (show WfS [] from Nat.zero_le _) | (refine Ph.old ?_ hs; assumption) ) (by first | exact (show WfI 0 from ⟨by omega, by omega⟩) | (refine Ph.old ?_ hs; assumption) | exact (show WfI (0) from ⟨by omega, by omega⟩))
     try simp only [List.cons_append, List.nil_append] at hs
     refine WL.r Q0 (Yr.appendE (s := x4.nodes) (F := K7_0) (u := (⟨y.text, ([] : Str), 0, ⟨[], none, 0⟩⟩ : PNode)) (G := []) hs elt37 Q2 Q0 Q0 (hs.box_cells Q1) (by have e9 := congrArg (fun t : TBuilder => t.nodes.length) hx4; simp only [PBuilder.lg, List.length_map] at e9; simp; unfold maxLen; omega) (by have e9 := congrArg (fun t : TBuilder => t.nodes.length) hx4; simp only [PBuilder.lg, List.length_map] at e9; simp; omega)) ?_
     clear hs; rintro _ w ⟨s8, F8, rfl, hl8, hs⟩
     refine WL.p Q0 (Yl.fieldAddr fa40_0 Q0) ?_
     refine WL.s (Yr.storeB hs Q0 Q0 Q0 Q5 Q3 Q0 (by exact szf37)) ?_
     clear hs; rintro _ w hs
     refine WL.nil ?_
     refine At.then_ ?_
     refine WC.seq ?_
     refine WL.p Q0 (Yl.loadAB agg40 Q0 hs Q1 Q0 Q0) ?_
     refine WL.s (Yr.storeB hs Q0 Q0 Q0 Q5 Q3 Q0 (by exact szf40)) ?_
     clear hs; rintro _ w hs
     refine Qa ?_
     refine Qa ?_
     refine WL.next ?_
     refine WC.ret ?_
     refine At.blockret ?_
     refine At.thenret ?_
     refine fin3c rfl agg40 Q0 Q0 Q0 hs Q1 Q0 ?_
     refine Ret.mk hs ?_
     refine ⟨(⟨s8, x4.opn⟩ : PBuilder), ?_, ?_, (PBuilder.join (⟨s8, x4.opn⟩ : PBuilder) (hs.only (D := [ow s8 F8, ow x4.opn K7_1]) Q2)).fresh List.mem_cons_self⟩
     · simp_all [runSaid, countN_lg, colorOf_lg, PBuilder.lg] <;> rfl
     · simp_all [runOut, PBuilder.lg, PNode.lg, inR_true]
    ·
     refine WC.skipn ?_
     refine WC.seq ?_
     refine WL.p Q0 (Yl.loadAB agg40 Q0 hs Q1 Q0 Q0) ?_
     refine WL.s (Yr.storeB hs Q0 Q0 Q0 Q5 Q3 Q0 (by exact szf40)) ?_
     clear hs; rintro _ w hs
     refine Qa ?_
     refine Qa ?_
     refine WL.next ?_
     refine WC.ret ?_
     refine At.blockret ?_
     refine At.thenret ?_
     refine fin3c rfl agg40 Q0 Q0 Q0 hs Q1 Q0 ?_
     refine Ret.mk hs ?_
     refine ⟨x4, ?_, ?_, hs.fresh Q1⟩
     · simp_all [runSaid, countN_lg, colorOf_lg, PBuilder.lg] <;> rfl
     · first
       | (simp_all [runOut, inR_true, inR_false]; done)
       | (rw [runOut, if_neg (by rintro ⟨a1, a2, a3⟩; simp only [inR_true, inR_false, PBuilder.lg, List.length_map] at *; first | omega | simp_all)]; assumption)
   ·
    replace h3 := inR_false.1 h3
    refine WL.skip (d := 26) Q0 Q0 Q0 Q0 ?_
    refine WL.skip (d := 26) Q0 Q0 Q0 Q0 ?_
    refine WL.skip (d := 26) Q0 Q0 Q0 Q0 ?_
    refine WL.p Q0 (Yl.pickF Q0 Q0) ?_
    refine WL.next ?_
    refine WC.condF Q0 ?_
    refine WC.skipn ?_
    refine WC.seq ?_
    refine WL.p Q0 (Yl.loadAB agg40 Q0 hs Q1 Q0 Q0) ?_
    refine WL.s (Yr.storeB hs Q0 Q0 Q0 Q5 Q3 Q0 (by exact szf40)) ?_
    clear hs; rintro _ w hs
    refine Qa ?_
    refine Qa ?_
    refine WL.next ?_
    refine WC.ret ?_
    refine At.blockret ?_
    refine At.thenret ?_
    refine fin3c rfl agg40 Q0 Q0 Q0 hs Q1 Q0 ?_
    refine Ret.mk hs ?_
    refine ⟨x4, ?_, ?_, hs.fresh Q1⟩
    · simp_all [runSaid, countN_lg, colorOf_lg, PBuilder.lg] <;> rfl
    · first
      | (simp_all [runOut, inR_true, inR_false]; done)
      | (rw [runOut, if_neg (by rintro ⟨a1, a2, a3⟩; simp only [inR_true, inR_false, PBuilder.lg, List.length_map] at *; first | omega | simp_all)]; assumption)
  ·
   replace h2 := of_decide_eq_false h2
   refine WC.seq ?_
   refine WL.p Q0 (Yl.eqi Q0 Q0) ?_
   refine Qa ?_
   refine WL.next ?_
   refine WC.condS Q0 (fun h3 => ?_) (fun h3 => ?_)
   ·
    replace h3 := of_decide_eq_true h3
    refine WC.anyn2 (c := box b3 _ _) mixed hs (by repeat (first | exact Ext.here | apply Ext.there)) ?_
    clear hs; intro w hs
    refine WA.p (i := 0) Q0 Q6 Q6 Q6 Q0 (hs.only Q2) (fun w hs => Yl.loadAB agg40 Q0 hs Q1 Q0 Q0) ?_
    refine WA.p (i := 1) Q0 Q6 Q6 Q6 Q0 (hs.only Q2) (fun w hs => Yl.fieldAddr fa54_1 Q0) ?_
    refine WA.p (i := 2) Q0 Q6 Q6 Q6 Q0 (hs.only Q2) (fun w hs => Yl.loadB sca9 Q0 hs Q1 Q0) ?_
    refine WA.p (i := 3) Q0 Q6 Q6 Q6 Q0 (hs.only Q2) (fun w hs => Yl.cat Q0 Q0 (by simp only [List.length_append, List.length_cons, List.length_nil] at *; omega)) ?_
    refine WA.p (i := 4) Q0 Q6 Q6 Q6 Q0 (hs.only Q2) (fun w hs => Yl.cat Q0 Q0 (by simp only [List.length_append, List.length_cons, List.length_nil] at *; omega)) ?_
    refine WA.p (i := 5) Q0 Q6 Q6 Q6 Q0 (hs.only Q2) (fun w hs => Yl.loadAB agg40 Q0 hs Q1 Q0 Q0) ?_
    refine WA.p (i := 6) Q0 Q6 Q6 Q6 Q0 (hs.only Q2) (fun w hs => Yl.fieldAddr fa54_1 Q0) ?_
    refine WA.p (i := 7) Q0 Q6 Q6 Q6 Q0 (hs.only Q2) (fun w hs => Yl.loadB sca9 Q0 hs Q1 Q0) ?_
    refine WA.callp2 (i := 8) hs (fun _ hs => hs.only Q2) Q6 Q0 Q0 (Yc.func Q0 fn58) (c_spec_CountName _ _ _ (Ph.old h_b hs)) ?_
    clear hs; intro w hs
    refine WA.callp2 (i := 9) hs (fun _ hs => hs.only Q2) Q6 Q0 Q0 (Yc.func Q0 fn57) (c_spec_FormatInt _ _ (countN_wf _ h_b.nodes.lt)) ?_
    clear hs; intro w hs
    refine WA.p (i := 10) Q0 Q6 Q6 Q6 Q0 (hs.only Q2) (fun w hs => Yl.cat Q0 Q0 (by simp only [List.length_append, List.length_cons, List.length_nil] at *; omega)) ?_
    refine WA.s (i := 11) Q6 Q0 (Yr.storeB hs Q0 Q0 Q0 Q5 Q3 Q0 (by exact szf40)) (by rintro _ w hs; exact hs.only Q2) ?_
    clear hs; rintro _ w hs
    refine WA.p (i := 12) Q0 Q6 Q6 Q6 Q0 (hs.only Q2) (fun w hs => Yl.assign Q0) ?_
    refine WA.p (i := 13) Q0 Q6 Q6 Q6 Q0 (hs.only Q2) (fun w hs => Yl.assign Q0) ?_
    refine WA.donen Q6 ?_
    refine WC.ret ?_
    refine At.blockret ?_
    refine At.thenret ?_
    refine fin3c rfl agg40 Q0 Q0 Q0 hs Q1 Q0 ?_
    refine Ret.mk hs ?_
    refine ⟨x4, ?_, ?_, hs.fresh Q1⟩
    · simp_all [runSaid, countN_lg, colorOf_lg, PBuilder.lg] <;> rfl
    · first
      | (simp_all [runOut, inR_true, inR_false]; done)
      | (rw [runOut, if_neg (by rintro ⟨a1, a2, a3⟩; simp only [inR_true, inR_false, PBuilder.lg, List.length_map] at *; first | omega | simp_all)]; assumption)
   ·
    replace h3 := of_decide_eq_false h3
    refine WC.seq ?_
    refine WL.p Q0 (Yl.eqi Q0 Q0) ?_
    refine Qa ?_
    refine WL.next ?_
    refine WC.condS Q0 (fun h4 => ?_) (fun h4 => ?_)
    ·
     replace h4 := of_decide_eq_true h4
     refine WC.anyn2 (c := box b3 _ _) mixed hs (by repeat (first | exact Ext.here | apply Ext.there)) ?_
     clear hs; intro w hs
     refine WA.p (i := 0) Q0 Q6 Q6 Q6 Q0 (hs.only Q2) (fun w hs => Yl.loadAB agg40 Q0 hs Q1 Q0 Q0) ?_
     refine WA.p (i := 1) Q0 Q6 Q6 Q6 Q0 (hs.only Q2) (fun w hs => Yl.fieldAddr fa54_1 Q0) ?_
     refine WA.p (i := 2) Q0 Q6 Q6 Q6 Q0 (hs.only Q2) (fun w hs => Yl.loadB sca9 Q0 hs Q1 Q0) ?_
     refine WA.p (i := 3) Q0 Q6 Q6 Q6 Q0 (hs.only Q2) (fun w hs => Yl.cat Q0 Q0 (by simp only [List.length_append, List.length_cons, List.length_nil] at *; omega)) ?_
     refine WA.p (i := 4) Q0 Q6 Q6 Q6 Q0 (hs.only Q2) (fun w hs => Yl.cat Q0 Q0 (by simp only [List.length_append, List.length_cons, List.length_nil] at *; omega)) ?_
     refine WA.p (i := 5) Q0 Q6 Q6 Q6 Q0 (hs.only Q2) (fun w hs => Yl.move Q0) ?_
     refine WA.p (i := 6) Q0 Q6 Q6 Q6 Q0 (hs.only Q2) (fun w hs => Yl.fieldAddr fa54_1 Q0) ?_
     refine WA.p (i := 7) Q0 Q6 Q6 Q6 Q0 (hs.only Q2) (fun w hs => Yl.loadB sca9 Q0 hs Q1 Q0) ?_
     refine WA.callp2 (i := 8) hs (fun _ hs => hs.only Q2) Q6 Q0 Q0 (Yc.func Q0 fn47) (c_spec_ColorOf _ _ _ (Ph.old h_sheets hs)) ?_
     clear hs; intro w hs
     refine WA.callp2 (i := 9) hs (fun _ hs => hs.only Q2) Q6 Q0 Q0 (Yc.func Q0 fn57) (c_spec_FormatInt _ _ (colorOf_wf (fun s hs9 x hx9 => (Sl.Ok.elems (h_sheets.elems s hs9).rules x hx9).color))) ?_
     clear hs; intro w hs
     refine WA.p (i := 10) Q0 Q6 Q6 Q6 Q0 (hs.only Q2) (fun w hs => Yl.cat Q0 Q0 (by simp only [List.length_append, List.length_cons, List.length_nil] at *; omega)) ?_
     refine WA.s (i := 11) Q6 Q0 (Yr.storeB hs Q0 Q0 Q0 Q5 Q3 Q0 (by exact szf40)) (by rintro _ w hs; exact hs.only Q2) ?_
     clear hs; rintro _ w hs
     refine WA.p (i := 12) Q0 Q6 Q6 Q6 Q0 (hs.only Q2) (fun w hs => Yl.assign Q0) ?_
     refine WA.p (i := 13) Q0 Q6 Q6 Q6 Q0 (hs.only Q2) (fun w hs => Yl.assign Q0) ?_
     refine WA.donen Q6 ?_
     refine WC.ret ?_
     refine At.blockret ?_
     refine At.thenret ?_
     refine fin3c rfl agg40 Q0 Q0 Q0 hs Q1 Q0 ?_
     refine Ret.mk hs ?_
     refine ⟨x4, ?_, ?_, hs.fresh Q1⟩
     · simp_all [runSaid, countN_lg, colorOf_lg, PBuilder.lg] <;> rfl
     · first
       | (simp_all [runOut, inR_true, inR_false]; done)
       | (rw [runOut, if_neg (by rintro ⟨a1, a2, a3⟩; simp only [inR_true, inR_false, PBuilder.lg, List.length_map] at *; first | omega | simp_all)]; assumption)
    ·
     replace h4 := of_decide_eq_false h4
     refine WC.seq ?_
     refine WL.p Q0 (Yl.eqi Q0 Q0) ?_
     refine Qa ?_
     refine WL.next ?_
     refine WC.condS Q0 (fun h5 => ?_) (fun h5 => ?_)
     ·
      replace h5 := of_decide_eq_true h5
      refine WC.anyn2 (c := box b3 _ _) mixed hs (by repeat (first | exact Ext.here | apply Ext.there)) ?_
      clear hs; intro w hs
      refine WA.p (i := 0) Q0 Q6 Q6 Q6 Q0 (hs.only Q2) (fun w hs => Yl.loadAB agg40 Q0 hs Q1 Q0 Q0) ?_
      refine WA.p (i := 1) Q0 Q6 Q6 Q6 Q0 (hs.only Q2) (fun w hs => Yl.fieldAddr fa54_1 Q0) ?_
      refine WA.p (i := 2) Q0 Q6 Q6 Q6 Q0 (hs.only Q2) (fun w hs => Yl.loadB sca9 Q0 hs Q1 Q0) ?_
      refine WA.p (i := 3) Q0 Q6 Q6 Q6 Q0 (hs.only Q2) (fun w hs => Yl.cat Q0 Q0 (by simp only [List.length_append, List.length_cons, List.length_nil] at *; omega)) ?_
      refine WA.s (i := 4) Q6 Q0 (Yr.storeB hs Q0 Q0 Q0 Q5 Q3 Q0 (by exact szf40)) (by rintro _ w hs; exact hs.only Q2) ?_
      clear hs; rintro _ w hs
      refine WA.p (i := 5) Q0 Q6 Q6 Q6 Q0 (hs.only Q2) (fun w hs => Yl.assign Q0) ?_
      refine WA.p (i := 6) Q0 Q6 Q6 Q6 Q0 (hs.only Q2) (fun w hs => Yl.assign Q0) ?_
      refine WA.donen Q6 ?_
      refine WC.ret ?_
      refine At.blockret ?_
      refine At.thenret ?_
      refine fin3c rfl agg40 Q0 Q0 Q0 hs Q1 Q0 ?_
      refine Ret.mk hs ?_
      refine ⟨x4, ?_, ?_, hs.fresh Q1⟩
      · simp_all [runSaid, countN_lg, colorOf_lg, PBuilder.lg] <;> rfl
      · first
        | (simp_all [runOut, inR_true, inR_false]; done)
        | (rw [runOut, if_neg (by rintro ⟨a1, a2, a3⟩; simp only [inR_true, inR_false, PBuilder.lg, List.length_map] at *; first | omega | simp_all)]; assumption)
     ·
      replace h5 := of_decide_eq_false h5
      refine WC.skip ?_
      refine At.blocknormal ?_
      refine At.then_ ?_
      refine WC.seq ?_
      refine WL.p Q0 (Yl.loadAB agg40 Q0 hs Q1 Q0 Q0) ?_
      refine WL.s (Yr.storeB hs Q0 Q0 Q0 Q5 Q3 Q0 (by exact szf40)) ?_
      clear hs; rintro _ w hs
      refine Qa ?_
      refine Qa ?_
      refine WL.next ?_
      refine WC.ret ?_
      refine fin3c rfl agg40 Q0 Q0 Q0 hs Q1 Q0 ?_
      refine Ret.mk hs ?_
      refine ⟨x4, ?_, ?_, hs.fresh Q1⟩
      · simp_all [runSaid, countN_lg, colorOf_lg, PBuilder.lg] <;> rfl
      · first
        | (simp_all [runOut, inR_true, inR_false]; done)
        | (rw [runOut, if_neg (by rintro ⟨a1, a2, a3⟩; simp only [inR_true, inR_false, PBuilder.lg, List.length_map] at *; first | omega | simp_all)]; assumption)

set_option maxRecDepth 20000 in
theorem c_laws_FnRuns (code : (Sl UInt8)) (w : World) (h_code : Ph.ok w code) (ht_ : Tab10 Tryz.prog w) : Calls Tryz.prog 4 [Sl.v code].toArray w (RetP w (Bo true)) := by
 refine enterN 134 Tryz.func4 rfl rfl rfl ?_
 have hs := Sat.start w
 refine WC.seq ?_
 refine Qa ?_
 refine WL.next ?_
 refine WC.seq' ?_
 refine WC.seq ?_
 refine Qm ?_
 refine WL.callp hs Q0 (Yc.func Q0 fn5) (c_laws_big _ _ (Ph.old h_code hs)) ?_
 clear hs; intro w hs
 refine WL.next ?_
 refine WC.condS Q0 (fun h1 => ?_) (fun h1 => ?_)
 ·
  replace h1 := of_decide_eq_true h1
  refine WC.seq ?_
  refine Qa ?_
  refine WL.next ?_
  refine WC.ret ?_
  refine At.thenret ?_
  refine fin1' rfl Q0 ?_
  refine RetP.mk hs ?_
  first
   | rfl
   | (clear hs; simp_all; done)
 ·
  replace h1 := of_decide_eq_false h1
  refine WC.skipn ?_
  refine WC.seq ?_
  refine Qm ?_
  refine WL.callx hs Q0 (Yc.func Q0 fn17) (c_spec_DrawRunScript _ _ (Ph.old h_code hs)) ?_
  clear hs; intro v w ho hR hs
  obtain ⟨x1_b, x1_sh, x1_l, rfl, _, hx1, hf1⟩ := hR
  obtain ⟨F1, F1_2, F1_3, hs⟩ := hs.addF3 ho hf1
  clear ho hf1
  have hbb : x1_b.lg.size + lsz TLine.size x1_l.l ≤ 1048576 := by omega
  have hll : x1_l.l.length ≤ 1048576 := by simp only [lsz] at hbb; omega
  refine Qm ?_
  refine WL.p Q0 (Yl.extract Q0 Q0) ?_
  refine WL.p Q0 (Yl.extract Q0 Q0) ?_
  refine WL.p Q0 (Yl.extract Q0 Q0) ?_
  refine WL.r Q0 (Yr.alloc hs zt40) ?_
  clear hs; rintro _ w ⟨b2, rfl, hb, hs⟩; clear hb
  refine WL.s (Yr.storeB hs Q0 Q0 Q0 Q5 Q3 Q0 (by exact szf40)) ?_
  clear hs; rintro _ w hs
  refine Qa ?_
  refine Qa ?_
  refine WL.next ?_
  refine WC.seq ?_
  refine WL.p Q0 (Yl.loadAB agg40 Q0 hs Q1 Q0 Q0) ?_
  refine Qm ?_
  refine Qm ?_
  refine WL.callx hs Q0 (Yc.func Q0 fn18) (c_impl_RunScript _ _ _ _ (hs.okow (x := x1_b) (F := F1) Q1) (hs.okow (x := x1_sh) (F := F1_2) Q1) (hs.okow (x := x1_l) (F := F1_3) Q1) (by exact hbb) (by first | assumption | exact Sat.tab hs (by assumption))) ?_
  clear hs; intro v w ho hR hs
  obtain ⟨x3_xb, x3_xw, x3_xl, rfl, hokx3_xw, hx3, hf3⟩ := hR
  obtain ⟨F3, F3_2, hs⟩ := hs.addF2 ho hf3
  clear ho hf3
  refine Qm ?_
  refine WL.p Q0 (Yl.extract Q0 Q0) ?_
  refine WL.p Q0 (Yl.extract Q0 Q0) ?_
  refine WL.p Q0 (Yl.extract Q0 Q0) ?_
  refine WL.r Q0 (Yr.alloc hs zt40) ?_
  clear hs; rintro _ w ⟨b4, rfl, hb, hs⟩; clear hb
  refine WL.s (Yr.storeB hs Q0 Q0 Q0 Q5 Q3 Q0 (by exact szf40)) ?_
  clear hs; rintro _ w hs
  refine Qa ?_
  refine Qa ?_
  refine WL.next ?_
  refine WC.seq ?_
  refine WL.p Q0 (Yl.loadAB agg40 Q0 hs Q1 Q0 Q0) ?_
  refine WL.r Q0 (Yr.alloc hs zt40) ?_
  clear hs; rintro _ w ⟨b5, rfl, hb, hs⟩; clear hb
  refine WL.s (Yr.storeB hs Q0 Q0 Q0 Q5 Q3 Q0 (by exact szf40)) ?_
  clear hs; rintro _ w hs
  refine WL.next ?_
  refine WC.seq ?_
  refine Qa ?_
  refine WL.next ?_
  refine WC.seq ?_
  refine WL.r Q0 (Yr.buildSlice hs sll48 Q0 Q0 Q0 Q4 Q0) ?_
  clear hs; rintro _ w ⟨b6, rfl, hb, hs⟩; clear hb
  refine Qa ?_
  refine WL.next ?_
  refine WC.seq' ?_
  refine WC.seq ?_
  refine Qa ?_
  refine WL.next ?_
  refine WC.block ?_
  replace hs := Sat.boxow (l := ([] : List Str)) (hs.sel (D := [box b6 _ _]) Q2) rfl rfl (by simp) (ownL_mk_flat (by simp))
  try simp only [List.cons_append, List.nil_append] at hs
  refine WC.loopP (ι := Nat × PBuilder × List Nat × Str × Sl Str × List Nat) (x1_l.l.length + 1) (fun ⟨k, q, F, W, s, G⟩ => x1_l.l.length - k) (fun ⟨k, q, F, W, s, G⟩ => [(12, I (k : Int)), (10, S W), (11, s.v)]) (fun ⟨k, q, F, W, s, G⟩ => [box b5 40 [Sl.v q.nodes, Sl.v q.opn], ow q F, ow s G]) (fun ⟨k, q, F, W, s, G⟩ => k ≤ x1_l.l.length ∧ q.lg.size ≤ x1_b.lg.size + lsz TLine.size (x1_l.l.take k) ∧ W.length ≤ lsz TLine.size (x1_l.l.take k) ∧ s.l.length ≤ k ∧ runAll mkB (x1_sh.l.map PSheet.lg) x1_b.lg x1_l.l = ((runAll mkB (x1_sh.l.map PSheet.lg) q.lg (x1_l.l.drop k)).1, W ++ (runAll mkB (x1_sh.l.map PSheet.lg) q.lg (x1_l.l.drop k)).2.1, s.l ++ (runAll mkB (x1_sh.l.map PSheet.lg) q.lg (x1_l.l.drop k)).2.2)) [(0, _), (2, _), (3, _), (4, _), (5, _), (6, _), (7, _), (8, _), (9, _), (26, _)] (hs.sel (D := [box b5 40 _, ow (⟨[], some ⟨b6, 0, none⟩, 0⟩ : Sl Str) [b6]]) Q2) ⟨by rfl, by rfl, by rfl, by rfl, by rfl, by rfl, by rfl, by rfl, by rfl, by rfl, trivial⟩ ?_ ?_
  ·
   have hR : runAll mkB (x1_sh.l.map PSheet.lg) x1_b.lg x1_l.l = ((runAll mkB (x1_sh.l.map PSheet.lg) x1_b.lg (x1_l.l.drop 0)).1, [] ++ (runAll mkB (x1_sh.l.map PSheet.lg) x1_b.lg (x1_l.l.drop 0)).2.1, [] ++ (runAll mkB (x1_sh.l.map PSheet.lg) x1_b.lg (x1_l.l.drop 0)).2.2) := rfl
   obtain ⟨d0, hd0⟩ := exists_get (l := x1_l.l) (k := 0) Q7
   refine WC.seq' ?_
   refine WC.seq ?_
   refine Qm ?_
   refine Qm ?_
   refine WL.p Q0 (Yl.len_sl slu45 Q0) ?_
   refine WL.p Q0 (Yl.lss Q0 Q0) ?_
   refine WL.next ?_
   refine WC.condS Q0 (fun h52 => ?_) (fun h52 => ?_)
   ·
    replace h52 := of_decide_eq_true h52
    refine WC.skipn ?_
    refine WC.seq' ?_
    refine WC.block ?_
    refine WC.anyn mixed hs ?_
    clear hs; intro w hs
    refine WA.p (i := 0) Q0 Q6 Q6 Q6 Q0 (hs.only Q2) (fun w hs => Yl.loadAB agg40 Q0 hs Q1 Q0 Q0) ?_
    refine WA.p (i := 1) Q0 Q6 Q6 Q6 Q0 (hs.only Q2) (fun w hs => Yl.move Q0) ?_
    refine WA.p (i := 2) Q0 Q6 Q6 Q6 Q0 (hs.only Q2) (fun w hs => Yl.move Q0) ?_
    refine WA.p (i := 3) Q0 Q6 Q6 Q6 Q0 (hs.only Q2) (fun w hs => Yl.move Q0) ?_
    refine WA.p (i := 4) Q0 Q6 Q6 Q6 Q0 (hs.only Q2) (fun w hs => Yl.indexAddr (k := 0) slt45 Q0 Q0 (hs.okow (x := x1_l) (F := F1_3) Q1) Q0 (hd0)) ?_
    refine WA.p (i := 5) Q0 Q6 Q6 Q6 Q0 (hs.only Q2) (fun w hs => Yl.loadA agg54 Q0 (Sl.Ok.at_ (hs.okow (x := x1_l) (F := F1_3) Q1) (by assumption)).2 Q0) ?_
    refine WA.two (i := 6) (j := 11) Q6 ?_ ?_
    ·
     refine WI.call2 (i := 6) hs (fun _ hs => hs.only Q2) Q0 Q0 (Yc.func Q0 fn19) (c_impl_RunLine _ _ _ _ (hs.okow (x := x1_b) (F := F1) Q1) (hs.okow (x := x1_sh) (F := F1_2) Q1) (Sl.Ok.elem (hs.okow (x := x1_l) (F := F1_3) Q1) hd0) Q7 (by have h9 := lsum_le (f := TLine.size) (List.mem_of_getElem? hd0); simp only [lsz, TLine.size] at h9 hbb ⊢; omega) (by first | assumption | exact Sat.tab hs (by assumption))) ?_
     have hs0 := hs; clear hs; intro v w hb hR hs; clear hs
     obtain ⟨x7, rfl, hx7, hf7⟩ := hR
     obtain ⟨F7, hs⟩ := hf7.sat hs0 hb; clear hs0 hf7
     refine WA.p (i := 7) Q0 Q6 Q6 Q6 Q0 (hs.only Q2) (fun w hs => Yl.move Q0) ?_
     refine WA.p (i := 8) Q0 Q6 Q6 Q6 Q0 (hs.only Q2) (fun w hs => Yl.extract Q0 Q0) ?_
     refine WA.p (i := 9) Q0 Q6 Q6 Q6 Q0 (hs.only Q2) (fun w hs => Yl.extract Q0 Q0) ?_
     refine WA.p (i := 10) Q0 Q6 Q6 Q6 Q0 (hs.only Q2) (fun w hs => Yl.extract Q0 Q0) ?_
     refine WA.r (i := 11) Q6 Q0 Q0 (Yr.alloc hs zt40) (by rintro _ w ⟨b8, rfl, hb, hs⟩; exact hs.only Q2) ?_
     clear hs; rintro _ w ⟨b8, rfl, hb, hs⟩; clear hb
     refine WA.s (i := 12) Q6 Q0 (Yr.storeB hs Q0 Q0 Q0 Q5 Q3 Q0 (by exact szf40)) (by rintro _ w hs; exact hs.only Q2) ?_
     clear hs; rintro _ w hs
     refine WA.p (i := 13) Q0 Q6 Q6 Q6 Q0 (hs.only Q2) (fun w hs => Yl.assign Q0) ?_
     refine WA.p (i := 14) Q0 Q6 Q6 Q6 Q0 (hs.only Q2) (fun w hs => Yl.assign Q0) ?_
     refine WA.donen Q6 ?_
     refine WC.seq ?_
     refine WL.p Q0 (Yl.loadAB agg40 Q0 hs Q1 Q0 Q0) ?_
     refine WL.s (Yr.storeB hs Q0 Q0 Q0 Q5 Q3 Q0 (by exact szf40)) ?_
     clear hs; rintro _ w hs
     refine WL.next ?_
     refine WC.seq ?_
     refine Qm ?_
     refine Qm ?_
     refine WL.p Q0 (Yl.cat Q0 Q0 (by exact wrote_len (W := []) (k := 0) (lsz_take TLine.size x1_l.l 0) (Nat.zero_le _) hbb (List.mem_of_getElem? hd0))) ?_
     refine Qa ?_
     refine WL.next ?_
     refine WC.seq ?_
     refine Qm ?_
     refine WL.p Q0 (Yl.nes Q0 Q0) ?_
     refine WL.next ?_
     refine WC.condS Q0 (fun h53 => ?_) (fun h53 => ?_)
     ·
      replace h53 := not_eq_true h53
      replace h53 := of_decide_eq_false h53
      refine WC.region ?_
      refine Qm ?_
      refine Qm ?_
      refine WL.r Q0 (Yr.buildSlice hs sll48 Q0 Q0 Q0 Q4 Q0) ?_
      clear hs; rintro _ w ⟨b9, rfl, hb, hs⟩; clear hb
      refine WL.r Q0 (Yr.append (s := (⟨[], some ⟨b6, 0, none⟩, 0⟩ : Sl Str)) (F := [b6]) hs elt48 Q2 Q0 Q0 rfl (xs := [runSaid x1_b.lg (x1_sh.l.map PSheet.lg) d0]) (hs.box_cells Q1) (by intro x hx; obtain rfl := List.mem_singleton.1 hx; exact runSaid_wf (hs.okow (x := x1_b) (F := F1) Q1) (hs.okow (x := x1_sh) (F := F1_2) Q1) (lineText_le hbb (List.mem_of_getElem? hd0))) (by simp; unfold maxLen; omega) (by simp)) ?_
      clear hs; rintro _ w ⟨s10, F10, rfl, hl10, hs⟩
      refine Qa ?_
      refine WL.nil ?_
      refine At.blocknormal ?_
      refine At.then_ ?_
      refine WC.region ?_
      refine Qm ?_
      refine WL.p Q0 (Yl.add Q0 Q0 Q7) ?_
      refine Qa ?_
      refine WL.nil ?_
      refine At.roundF (1, x7, _, _, s10, F10) (hs.only Q2) ⟨by rfl, by rfl, by rfl, by rfl, by rfl, by rfl, by rfl, by rfl, by rfl, by rfl, trivial⟩ ⟨by rfl, by rfl, by rfl, trivial⟩ ?_ ?_
      ·
       show x1_l.l.length - 1 < x1_l.l.length + 1
       omega
      ·
       have h9 := run_next hd0 hR
       rw [saidOf_ne (by assumption)] at h9
       refine ⟨by omega, run_size hx7 (Nat.le_add_right _ _) hd0, run_wrote (W := []) (Nat.zero_le _) hd0, by rw [hl10]; simp, ?_⟩
       rw [hx7, hl10]; exact h9
     ·
      replace h53 := not_eq_false h53
      replace h53 := of_decide_eq_true h53
      refine WC.skip ?_
      refine At.blocknormal ?_
      refine At.then_ ?_
      refine WC.region ?_
      refine Qm ?_
      refine WL.p Q0 (Yl.add Q0 Q0 Q7) ?_
      refine Qa ?_
      refine WL.nil ?_
      refine At.roundF (1, x7, _, _, (⟨[], some ⟨b6, 0, none⟩, 0⟩ : Sl Str), [b6]) (hs.only Q2) ⟨by rfl, by rfl, by rfl, by rfl, by rfl, by rfl, by rfl, by rfl, by rfl, by rfl, trivial⟩ ⟨by rfl, by rfl, by rfl, trivial⟩ ?_ ?_
      ·
       show x1_l.l.length - 1 < x1_l.l.length + 1
       omega
      ·
       have h9 := run_next hd0 hR
       rw [saidOf_nil (by assumption), List.append_nil] at h9
       refine ⟨by omega, run_size hx7 (Nat.le_add_right _ _) hd0, run_wrote (W := []) (Nat.zero_le _) hd0, by simp, ?_⟩
       rw [hx7]; exact h9
    ·
     refine WI.r (i := 11) Q0 Q0 (Yr.alloc hs zt40) (by rintro _ w ⟨b11, rfl, hb, hs⟩; exact hs.only Q2) ?_
     clear hs; rintro _ w ⟨b11, rfl, hb, hs⟩; clear hb
     refine WA.call2 (i := 6) hs (fun _ hs => hs.only Q2) Q6 Q0 Q0 (Yc.func Q0 fn19) (c_impl_RunLine _ _ _ _ (hs.okow (x := x1_b) (F := F1) Q1) (hs.okow (x := x1_sh) (F := F1_2) Q1) (Sl.Ok.elem (hs.okow (x := x1_l) (F := F1_3) Q1) hd0) Q7 (by have h9 := lsum_le (f := TLine.size) (List.mem_of_getElem? hd0); simp only [lsz, TLine.size] at h9 hbb ⊢; omega) (by first | assumption | exact Sat.tab hs (by assumption))) ?_
     have hs0 := hs; clear hs; intro v w hb hR hs; clear hs
     obtain ⟨x12, rfl, hx12, hf12⟩ := hR
     obtain ⟨F12, hs⟩ := hf12.sat hs0 hb; clear hs0 hf12
     refine WA.p (i := 7) Q0 Q6 Q6 Q6 Q0 (hs.only Q2) (fun w hs => Yl.move Q0) ?_
     refine WA.p (i := 8) Q0 Q6 Q6 Q6 Q0 (hs.only Q2) (fun w hs => Yl.extract Q0 Q0) ?_
     refine WA.p (i := 9) Q0 Q6 Q6 Q6 Q0 (hs.only Q2) (fun w hs => Yl.extract Q0 Q0) ?_
     refine WA.p (i := 10) Q0 Q6 Q6 Q6 Q0 (hs.only Q2) (fun w hs => Yl.extract Q0 Q0) ?_
     refine WA.s (i := 12) Q6 Q0 (Yr.storeB hs Q0 Q0 Q0 Q5 Q3 Q0 (by exact szf40)) (by rintro _ w hs; exact hs.only Q2) ?_
     clear hs; rintro _ w hs
     refine WA.p (i := 13) Q0 Q6 Q6 Q6 Q0 (hs.only Q2) (fun w hs => Yl.assign Q0) ?_
     refine WA.p (i := 14) Q0 Q6 Q6 Q6 Q0 (hs.only Q2) (fun w hs => Yl.assign Q0) ?_
     refine WA.donen Q6 ?_
     refine WC.seq ?_
     refine WL.p Q0 (Yl.loadAB agg40 Q0 hs Q1 Q0 Q0) ?_
     refine WL.s (Yr.storeB hs Q0 Q0 Q0 Q5 Q3 Q0 (by exact szf40)) ?_
     clear hs; rintro _ w hs
     refine WL.next ?_
     refine WC.seq ?_
     refine Qm ?_
     refine Qm ?_
     refine WL.p Q0 (Yl.cat Q0 Q0 (by exact wrote_len (W := []) (k := 0) (lsz_take TLine.size x1_l.l 0) (Nat.zero_le _) hbb (List.mem_of_getElem? hd0))) ?_
     refine Qa ?_
     refine WL.next ?_
     refine WC.seq ?_
     refine Qm ?_
     refine WL.p Q0 (Yl.nes Q0 Q0) ?_
     refine WL.next ?_
     refine WC.condS Q0 (fun h53 => ?_) (fun h53 => ?_)
     ·
      replace h53 := not_eq_true h53
      replace h53 := of_decide_eq_false h53
      refine WC.region ?_
      refine Qm ?_
      refine Qm ?_
      refine WL.r Q0 (Yr.buildSlice hs sll48 Q0 Q0 Q0 Q4 Q0) ?_
      clear hs; rintro _ w ⟨b13, rfl, hb, hs⟩; clear hb
      refine WL.r Q0 (Yr.append (s := (⟨[], some ⟨b6, 0, none⟩, 0⟩ : Sl Str)) (F := [b6]) hs elt48 Q2 Q0 Q0 rfl (xs := [runSaid x1_b.lg (x1_sh.l.map PSheet.lg) d0]) (hs.box_cells Q1) (by intro x hx; obtain rfl := List.mem_singleton.1 hx; exact runSaid_wf (hs.okow (x := x1_b) (F := F1) Q1) (hs.okow (x := x1_sh) (F := F1_2) Q1) (lineText_le hbb (List.mem_of_getElem? hd0))) (by simp; unfold maxLen; omega) (by simp)) ?_
      clear hs; rintro _ w ⟨s14, F14, rfl, hl14, hs⟩
      refine Qa ?_
      refine WL.nil ?_
      refine At.blocknormal ?_
      refine At.then_ ?_
      refine WC.region ?_
      refine Qm ?_
      refine WL.p Q0 (Yl.add Q0 Q0 Q7) ?_
      refine Qa ?_
      refine WL.nil ?_
      refine At.roundF (1, x12, _, _, s14, F14) (hs.only Q2) ⟨by rfl, by rfl, by rfl, by rfl, by rfl, by rfl, by rfl, by rfl, by rfl, by rfl, trivial⟩ ⟨by rfl, by rfl, by rfl, trivial⟩ ?_ ?_
      ·
       show x1_l.l.length - 1 < x1_l.l.length + 1
       omega
      ·
       have h9 := run_next hd0 hR
       rw [saidOf_ne (by assumption)] at h9
       refine ⟨by omega, run_size hx12 (Nat.le_add_right _ _) hd0, run_wrote (W := []) (Nat.zero_le _) hd0, by rw [hl14]; simp, ?_⟩
       rw [hx12, hl14]; exact h9
     ·
      replace h53 := not_eq_false h53
      replace h53 := of_decide_eq_true h53
      refine WC.skip ?_
      refine At.blocknormal ?_
      refine At.then_ ?_
      refine WC.region ?_
      refine Qm ?_
      refine WL.p Q0 (Yl.add Q0 Q0 Q7) ?_
      refine Qa ?_
      refine WL.nil ?_
      refine At.roundF (1, x12, _, _, (⟨[], some ⟨b6, 0, none⟩, 0⟩ : Sl Str), [b6]) (hs.only Q2) ⟨by rfl, by rfl, by rfl, by rfl, by rfl, by rfl, by rfl, by rfl, by rfl, by rfl, trivial⟩ ⟨by rfl, by rfl, by rfl, trivial⟩ ?_ ?_
      ·
       show x1_l.l.length - 1 < x1_l.l.length + 1
       omega
      ·
       have h9 := run_next hd0 hR
       rw [saidOf_nil (by assumption), List.append_nil] at h9
       refine ⟨by omega, run_size hx12 (Nat.le_add_right _ _) hd0, run_wrote (W := []) (Nat.zero_le _) hd0, by simp, ?_⟩
       rw [hx12]; exact h9
   ·
    replace h52 := of_decide_eq_false h52
    exfalso
    omega
  clear hs; rintro ⟨k, q, F, W, s, G⟩ w ⟨hJ1, hJ2, hJ3, hJ4, hJ5⟩ hs
  simp only [List.cons_append, List.nil_append] at hs
  refine WC.seq' ?_
  refine WC.seq ?_
  refine Qm ?_
  refine Qm ?_
  refine WL.p Q0 (Yl.len_sl slu45 Q0) ?_
  refine WL.p Q0 (Yl.lss Q0 Q0) ?_
  refine WL.next ?_
  refine WC.condS Q0 (fun h2 => ?_) (fun h2 => ?_)
  ·
   replace h2 := of_decide_eq_true h2
   obtain ⟨d, hd⟩ := exists_get (l := x1_l.l) (k := k) Q7
   refine WC.skipn ?_
   refine WC.seq' ?_
   refine WC.block ?_
   refine WC.anyn mixed hs ?_
   clear hs; intro w hs
   refine WA.p (i := 0) Q0 Q6 Q6 Q6 Q0 (hs.only Q2) (fun w hs => Yl.loadAB agg40 Q0 hs Q1 Q0 Q0) ?_
   refine WA.p (i := 1) Q0 Q6 Q6 Q6 Q0 (hs.only Q2) (fun w hs => Yl.move Q0) ?_
   refine WA.p (i := 2) Q0 Q6 Q6 Q6 Q0 (hs.only Q2) (fun w hs => Yl.move Q0) ?_
   refine WA.p (i := 3) Q0 Q6 Q6 Q6 Q0 (hs.only Q2) (fun w hs => Yl.move Q0) ?_
   refine WA.p (i := 4) Q0 Q6 Q6 Q6 Q0 (hs.only Q2) (fun w hs => Yl.indexAddr slt45 Q0 Q0 (hs.okow (x := x1_l) (F := F1_3) Q1) Q0 (hd)) ?_
   refine WA.p (i := 5) Q0 Q6 Q6 Q6 Q0 (hs.only Q2) (fun w hs => Yl.loadA agg54 Q0 (Sl.Ok.at_ (hs.okow (x := x1_l) (F := F1_3) Q1) (by assumption)).2 Q0) ?_
   refine WA.two (i := 6) (j := 11) Q6 ?_ ?_
   ·
    refine WI.call2 (i := 6) hs (fun _ hs => hs.only Q2) Q0 Q0 (Yc.func Q0 fn19) (c_impl_RunLine _ _ _ _ ⟨(hs.okow (x := q) (F := F) Q1).nodes, (hs.okow (x := q) (F := F) Q1).opn⟩ (hs.okow (x := x1_sh) (F := F1_2) Q1) (Sl.Ok.elem (hs.okow (x := x1_l) (F := F1_3) Q1) hd) (by first | assumption | (have := lsz_take TLine.size x1_l.l k; omega)) (by first | assumption | (have h9 := lsum_le (f := TLine.size) (List.mem_of_getElem? hd); simp only [lsz, TLine.size] at h9 hbb ⊢; omega)) (by first | assumption | exact Sat.tab hs (by assumption))) ?_
    have hs0 := hs; clear hs; intro v w hb hR hs; clear hs
    obtain ⟨x15, rfl, hx15, hf15⟩ := hR
    obtain ⟨F15, hs⟩ := hf15.sat hs0 hb; clear hs0 hf15
    refine WA.p (i := 7) Q0 Q6 Q6 Q6 Q0 (hs.only Q2) (fun w hs => Yl.move Q0) ?_
    refine WA.p (i := 8) Q0 Q6 Q6 Q6 Q0 (hs.only Q2) (fun w hs => Yl.extract Q0 Q0) ?_
    refine WA.p (i := 9) Q0 Q6 Q6 Q6 Q0 (hs.only Q2) (fun w hs => Yl.extract Q0 Q0) ?_
    refine WA.p (i := 10) Q0 Q6 Q6 Q6 Q0 (hs.only Q2) (fun w hs => Yl.extract Q0 Q0) ?_
    refine WA.r (i := 11) Q6 Q0 Q0 (Yr.alloc hs zt40) (by rintro _ w ⟨b16, rfl, hb, hs⟩; exact hs.only Q2) ?_
    clear hs; rintro _ w ⟨b16, rfl, hb, hs⟩; clear hb
    refine WA.s (i := 12) Q6 Q0 (Yr.storeB hs Q0 Q0 Q0 Q5 Q3 Q0 (by exact szf40)) (by rintro _ w hs; exact hs.only Q2) ?_
    clear hs; rintro _ w hs
    refine WA.p (i := 13) Q0 Q6 Q6 Q6 Q0 (hs.only Q2) (fun w hs => Yl.assign Q0) ?_
    refine WA.p (i := 14) Q0 Q6 Q6 Q6 Q0 (hs.only Q2) (fun w hs => Yl.assign Q0) ?_
    refine WA.donen Q6 ?_
    refine WC.seq ?_
    refine WL.p Q0 (Yl.loadAB agg40 Q0 hs Q1 Q0 Q0) ?_
    refine WL.s (Yr.storeB hs Q0 Q0 Q0 Q5 Q3 Q0 (by exact szf40)) ?_
    clear hs; rintro _ w hs
    refine WL.next ?_
    refine WC.seq ?_
    refine Qm ?_
    refine Qm ?_
    refine WL.p Q0 (Yl.cat Q0 Q0 (by exact wrote_len (lsz_take TLine.size x1_l.l k) hJ3 hbb (List.mem_of_getElem? hd))) ?_
    refine Qa ?_
    refine WL.next ?_
    refine WC.seq ?_
    refine Qm ?_
    refine WL.p Q0 (Yl.nes Q0 Q0) ?_
    refine WL.next ?_
    refine WC.condS Q0 (fun h3 => ?_) (fun h3 => ?_)
    ·
     replace h3 := not_eq_true h3
     replace h3 := of_decide_eq_false h3
     refine WC.region ?_
     refine Qm ?_
     refine Qm ?_
     refine WL.r Q0 (Yr.buildSlice hs sll48 Q0 Q0 Q0 Q4 Q0) ?_
     clear hs; rintro _ w ⟨b17, rfl, hb, hs⟩; clear hb
     refine WL.r Q0 (Yr.append (s := s) (F := G) hs elt48 Q2 Q0 Q0 rfl (xs := [runSaid q.lg (x1_sh.l.map PSheet.lg) d]) (hs.box_cells Q1) (by intro x hx; obtain rfl := List.mem_singleton.1 hx; exact runSaid_wf (hs.okow (x := q) (F := F) Q1) (hs.okow (x := x1_sh) (F := F1_2) Q1) (lineText_le hbb (List.mem_of_getElem? hd))) (by unfold maxLen; simp only [List.length_singleton]; omega) (by simp only [List.length_singleton]; omega)) ?_
     clear hs; rintro _ w ⟨s18, F18, rfl, hl18, hs⟩
     refine Qa ?_
     refine WL.nil ?_
     refine At.blocknormal ?_
     refine At.then_ ?_
     refine WC.region ?_
     refine Qm ?_
     refine WL.p Q0 (Yl.add Q0 Q0 Q7) ?_
     refine Qa ?_
     refine WL.nil ?_
     refine At.roundC (k + 1, x15, _, _, s18, F18) (hs.only Q2) ⟨by rfl, by rfl, by rfl, by rfl, by rfl, by rfl, by rfl, by rfl, by rfl, by rfl, trivial⟩ ⟨by rfl, by rfl, by rfl, trivial⟩ ?_ ?_
     ·
      show x1_l.l.length - (k + 1) < x1_l.l.length - k
      omega
     ·
      have h9 := run_next hd hJ5
      rw [saidOf_ne (by assumption)] at h9
      refine ⟨by omega, run_size hx15 hJ2 hd, run_wrote hJ3 hd, by rw [hl18, List.length_append, List.length_singleton]; omega, ?_⟩
      rw [hx15, hl18]; exact h9
    ·
     replace h3 := not_eq_false h3
     replace h3 := of_decide_eq_true h3
     refine WC.skip ?_
     refine At.blocknormal ?_
     refine At.then_ ?_
     refine WC.region ?_
     refine Qm ?_
     refine WL.p Q0 (Yl.add Q0 Q0 Q7) ?_
     refine Qa ?_
     refine WL.nil ?_
     refine At.roundC (k + 1, x15, _, _, s, G) (hs.only Q2) ⟨by rfl, by rfl, by rfl, by rfl, by rfl, by rfl, by rfl, by rfl, by rfl, by rfl, trivial⟩ ⟨by rfl, by rfl, by rfl, trivial⟩ ?_ ?_
     ·
      show x1_l.l.length - (k + 1) < x1_l.l.length - k
      omega
     ·
      have h9 := run_next hd hJ5
      rw [saidOf_nil (by assumption), List.append_nil] at h9
      refine ⟨by omega, run_size hx15 hJ2 hd, run_wrote hJ3 hd, by omega, ?_⟩
      rw [hx15]; exact h9
   ·
    refine WI.r (i := 11) Q0 Q0 (Yr.alloc hs zt40) (by rintro _ w ⟨b19, rfl, hb, hs⟩; exact hs.only Q2) ?_
    clear hs; rintro _ w ⟨b19, rfl, hb, hs⟩; clear hb
    refine WA.call2 (i := 6) hs (fun _ hs => hs.only Q2) Q6 Q0 Q0 (Yc.func Q0 fn19) (c_impl_RunLine _ _ _ _ ⟨(hs.okow (x := q) (F := F) Q1).nodes, (hs.okow (x := q) (F := F) Q1).opn⟩ (hs.okow (x := x1_sh) (F := F1_2) Q1) (Sl.Ok.elem (hs.okow (x := x1_l) (F := F1_3) Q1) hd) (by first | assumption | (have := lsz_take TLine.size x1_l.l k; omega)) (by first | assumption | (have h9 := lsum_le (f := TLine.size) (List.mem_of_getElem? hd); simp only [lsz, TLine.size] at h9 hbb ⊢; omega)) (by first | assumption | exact Sat.tab hs (by assumption))) ?_
    have hs0 := hs; clear hs; intro v w hb hR hs; clear hs
    obtain ⟨x20, rfl, hx20, hf20⟩ := hR
    obtain ⟨F20, hs⟩ := hf20.sat hs0 hb; clear hs0 hf20
    refine WA.p (i := 7) Q0 Q6 Q6 Q6 Q0 (hs.only Q2) (fun w hs => Yl.move Q0) ?_
    refine WA.p (i := 8) Q0 Q6 Q6 Q6 Q0 (hs.only Q2) (fun w hs => Yl.extract Q0 Q0) ?_
    refine WA.p (i := 9) Q0 Q6 Q6 Q6 Q0 (hs.only Q2) (fun w hs => Yl.extract Q0 Q0) ?_
    refine WA.p (i := 10) Q0 Q6 Q6 Q6 Q0 (hs.only Q2) (fun w hs => Yl.extract Q0 Q0) ?_
    refine WA.s (i := 12) Q6 Q0 (Yr.storeB hs Q0 Q0 Q0 Q5 Q3 Q0 (by exact szf40)) (by rintro _ w hs; exact hs.only Q2) ?_
    clear hs; rintro _ w hs
    refine WA.p (i := 13) Q0 Q6 Q6 Q6 Q0 (hs.only Q2) (fun w hs => Yl.assign Q0) ?_
    refine WA.p (i := 14) Q0 Q6 Q6 Q6 Q0 (hs.only Q2) (fun w hs => Yl.assign Q0) ?_
    refine WA.donen Q6 ?_
    refine WC.seq ?_
    refine WL.p Q0 (Yl.loadAB agg40 Q0 hs Q1 Q0 Q0) ?_
    refine WL.s (Yr.storeB hs Q0 Q0 Q0 Q5 Q3 Q0 (by exact szf40)) ?_
    clear hs; rintro _ w hs
    refine WL.next ?_
    refine WC.seq ?_
    refine Qm ?_
    refine Qm ?_
    refine WL.p Q0 (Yl.cat Q0 Q0 (by exact wrote_len (lsz_take TLine.size x1_l.l k) hJ3 hbb (List.mem_of_getElem? hd))) ?_
    refine Qa ?_
    refine WL.next ?_
    refine WC.seq ?_
    refine Qm ?_
    refine WL.p Q0 (Yl.nes Q0 Q0) ?_
    refine WL.next ?_
    refine WC.condS Q0 (fun h3 => ?_) (fun h3 => ?_)
    ·
     replace h3 := not_eq_true h3
     replace h3 := of_decide_eq_false h3
     refine WC.region ?_
     refine Qm ?_
     refine Qm ?_
     refine WL.r Q0 (Yr.buildSlice hs sll48 Q0 Q0 Q0 Q4 Q0) ?_
     clear hs; rintro _ w ⟨b21, rfl, hb, hs⟩; clear hb
     refine WL.r Q0 (Yr.append (s := s) (F := G) hs elt48 Q2 Q0 Q0 rfl (xs := [runSaid q.lg (x1_sh.l.map PSheet.lg) d]) (hs.box_cells Q1) (by intro x hx; obtain rfl := List.mem_singleton.1 hx; exact runSaid_wf (hs.okow (x := q) (F := F) Q1) (hs.okow (x := x1_sh) (F := F1_2) Q1) (lineText_le hbb (List.mem_of_getElem? hd))) (by unfold maxLen; simp only [List.length_singleton]; omega) (by simp only [List.length_singleton]; omega)) ?_
     clear hs; rintro _ w ⟨s22, F22, rfl, hl22, hs⟩
     refine Qa ?_
     refine WL.nil ?_
     refine At.blocknormal ?_
     refine At.then_ ?_
     refine WC.region ?_
     refine Qm ?_
     refine WL.p Q0 (Yl.add Q0 Q0 Q7) ?_
     refine Qa ?_
     refine WL.nil ?_
     refine At.roundC (k + 1, x20, _, _, s22, F22) (hs.only Q2) ⟨by rfl, by rfl, by rfl, by rfl, by rfl, by rfl, by rfl, by rfl, by rfl, by rfl, trivial⟩ ⟨by rfl, by rfl, by rfl, trivial⟩ ?_ ?_
     ·
      show x1_l.l.length - (k + 1) < x1_l.l.length - k
      omega
     ·
      have h9 := run_next hd hJ5
      rw [saidOf_ne (by assumption)] at h9
      refine ⟨by omega, run_size hx20 hJ2 hd, run_wrote hJ3 hd, by rw [hl22, List.length_append, List.length_singleton]; omega, ?_⟩
      rw [hx20, hl22]; exact h9
    ·
     replace h3 := not_eq_false h3
     replace h3 := of_decide_eq_true h3
     refine WC.skip ?_
     refine At.blocknormal ?_
     refine At.then_ ?_
     refine WC.region ?_
     refine Qm ?_
     refine WL.p Q0 (Yl.add Q0 Q0 Q7) ?_
     refine Qa ?_
     refine WL.nil ?_
     refine At.roundC (k + 1, x20, _, _, s, G) (hs.only Q2) ⟨by rfl, by rfl, by rfl, by rfl, by rfl, by rfl, by rfl, by rfl, by rfl, by rfl, trivial⟩ ⟨by rfl, by rfl, by rfl, trivial⟩ ?_ ?_
     ·
      show x1_l.l.length - (k + 1) < x1_l.l.length - k
      omega
     ·
      have h9 := run_next hd hJ5
      rw [saidOf_nil (by assumption), List.append_nil] at h9
      refine ⟨by omega, run_size hx20 hJ2 hd, run_wrote hJ3 hd, by omega, ?_⟩
      rw [hx20]; exact h9
  ·
   replace h2 := of_decide_eq_false h2
   have h9 := run_end Q7 hJ5
   have e1 : x3_xb.lg = q.lg := by rw [hx3.1, h9]
   have e2 : x3_xw = W := by rw [hx3.2.1, h9]
   have e3 : x3_xl.l = s.l := by rw [hx3.2.2, h9]
   have e4 : isPassive x1_l.l = true → x3_xw = [] ∧ x3_xb.lg = x1_b.lg := fun h8 => ⟨hx3.2.1.trans (runAll_passive h8).2, hx3.1.trans (runAll_passive h8).1⟩
   clear h9 hx3
   refine WC.exit ?_
   refine At.thenexit ?_
   refine At.thenexit ?_
   refine At.blockexit ?_
   refine At.then_ ?_
   refine WC.seq' ?_
   refine WC.seqJ (fun b => [(98, Bo b)]) (fun b => b = false) [(0, _), (2, _), (3, _), (4, _), (5, _), (6, _), (7, _), (8, _), (9, _), (10, _), (11, _), (12, _), (26, _), (46, _)] hs ⟨by rfl, by rfl, by rfl, by rfl, by rfl, by rfl, by rfl, by rfl, by rfl, by rfl, by rfl, by rfl, by rfl, by rfl, trivial⟩ ?_ ?_
   ·
    intro Q9 join
    refine WC.region ?_
    refine WL.p Q0 (Yl.loadAB agg40 Q0 hs Q1 Q0 Q0) ?_
    refine WL.p Q0 (Yl.loadAB agg40 Q0 hs Q1 Q0 Q0) ?_
    refine WL.callp hs Q0 (Yc.func Q0 fn20) (c_impl_EqualBuilders _ _ _ (hs.okow (x := x3_xb) (F := F3) Q1) ⟨(hs.okow (x := q) (F := F) Q1).nodes, (hs.okow (x := q) (F := F) Q1).opn⟩) ?_
    clear hs; intro w hs
    refine WL.p Q0 (Yl.not Q0) ?_
    refine Qm ?_
    refine WL.split (d := 74) Q0 (fun h3 => ?_) (fun h3 => ?_)
    ·
     replace h3 := not_eq_true h3
     replace h3 := of_decide_eq_false h3
     refine WL.skip (d := 74) Q0 Q0 Q0 Q0 ?_
     refine WL.skip (d := 74) Q0 Q0 Q0 Q0 ?_
     refine WL.skip (d := 74) Q0 Q0 Q0 Q0 ?_
     refine WL.p Q0 (Yl.pickT Q0 Q0) ?_
     refine Qm ?_
     refine WL.skip (d := 79) Q0 Q0 Q0 Q0 ?_
     refine WL.skip (d := 79) Q0 Q0 Q0 Q0 ?_
     refine WL.skip (d := 79) Q0 Q0 Q0 Q0 ?_
     refine WL.skip (d := 79) Q0 Q0 Q0 Q0 ?_
     refine WL.p Q0 (Yl.pickT Q0 Q0) ?_
     refine Qm ?_
     refine WL.skip (d := 85) Q0 Q0 Q0 Q0 ?_
     refine WL.skip (d := 85) Q0 Q0 Q0 Q0 ?_
     refine WL.skip (d := 85) Q0 Q0 Q0 Q0 ?_
     refine WL.skipU (d := 88) Q0 Q0 Q0 ?_
     refine WL.skipU (d := 88) Q0 Q0 Q0 ?_
     refine WL.skipU (d := 88) Q0 Q0 Q0 ?_
     refine WL.skipU (d := 91) Q0 Q0 Q0 ?_
     refine WL.skipU (d := 91) Q0 Q0 Q0 ?_
     refine WL.skipU (d := 91) Q0 Q0 Q0 ?_
     refine WL.skipU (d := 91) Q0 Q0 Q0 ?_
     refine WL.skipU (d := 88) Q0 Q0 Q0 ?_
     refine WL.skip (d := 85) Q0 Q0 Q0 Q0 ?_
     refine WL.p Q0 (Yl.pickT Q0 Q0) ?_
     refine WL.nil ?_
     refine join _ _ _ ?_ (hs.only Q2) ⟨by rfl, trivial⟩ ⟨by rfl, by rfl, by rfl, by rfl, by rfl, by rfl, by rfl, by rfl, by rfl, by rfl, by rfl, by rfl, by rfl, by rfl, trivial⟩
     (try clear join); (try clear ha); (try clear hs)
     clear hJ5
     simp_all
    ·
     replace h3 := not_eq_false h3
     replace h3 := of_decide_eq_true h3
     refine WL.run (d := 74) Q0 Q0 ?_
     refine Qm ?_
     refine WL.run (d := 74) Q0 Q0 ?_
     refine Qm ?_
     refine WL.run (d := 74) Q0 Q0 ?_
     refine WL.p Q0 (Yl.nes Q0 Q0) ?_
     refine WL.p Q0 (Yl.pickF Q0 Q0) ?_
     refine Qm ?_
     refine WL.split (d := 79) Q0 (fun h4 => ?_) (fun h4 => ?_)
     ·
      replace h4 := not_eq_true h4
      replace h4 := of_decide_eq_false h4
      refine WL.skip (d := 79) Q0 Q0 Q0 Q0 ?_
      refine WL.skip (d := 79) Q0 Q0 Q0 Q0 ?_
      refine WL.skip (d := 79) Q0 Q0 Q0 Q0 ?_
      refine WL.skip (d := 79) Q0 Q0 Q0 Q0 ?_
      refine WL.p Q0 (Yl.pickT Q0 Q0) ?_
      refine Qm ?_
      refine WL.skip (d := 85) Q0 Q0 Q0 Q0 ?_
      refine WL.skip (d := 85) Q0 Q0 Q0 Q0 ?_
      refine WL.skip (d := 85) Q0 Q0 Q0 Q0 ?_
      refine WL.skipU (d := 88) Q0 Q0 Q0 ?_
      refine WL.skipU (d := 88) Q0 Q0 Q0 ?_
      refine WL.skipU (d := 88) Q0 Q0 Q0 ?_
      refine WL.skipU (d := 91) Q0 Q0 Q0 ?_
      refine WL.skipU (d := 91) Q0 Q0 Q0 ?_
      refine WL.skipU (d := 91) Q0 Q0 Q0 ?_
      refine WL.skipU (d := 91) Q0 Q0 Q0 ?_
      refine WL.skipU (d := 88) Q0 Q0 Q0 ?_
      refine WL.skip (d := 85) Q0 Q0 Q0 Q0 ?_
      refine WL.p Q0 (Yl.pickT Q0 Q0) ?_
      refine WL.nil ?_
      refine join _ _ _ ?_ (hs.only Q2) ⟨by rfl, trivial⟩ ⟨by rfl, by rfl, by rfl, by rfl, by rfl, by rfl, by rfl, by rfl, by rfl, by rfl, by rfl, by rfl, by rfl, by rfl, trivial⟩
      (try clear join); (try clear ha); (try clear hs)
      clear hJ5
      simp_all
     ·
      replace h4 := not_eq_false h4
      replace h4 := of_decide_eq_true h4
      refine WL.run (d := 79) Q0 Q0 ?_
      refine Qm ?_
      refine WL.run (d := 79) Q0 Q0 ?_
      refine Qm ?_
      refine WL.run (d := 79) Q0 Q0 ?_
      refine WL.callp hs Q0 (Yc.func Q0 fn21) (c_laws_sameStrings _ _ _ (hs.okow (x := x3_xl) (F := F3_2) Q1) (hs.okow (x := s) (F := G) Q1)) ?_
      clear hs; intro w hs
      refine WL.run (d := 79) Q0 Q0 ?_
      refine WL.p Q0 (Yl.not Q0) ?_
      refine WL.p Q0 (Yl.pickF Q0 Q0) ?_
      refine Qm ?_
      refine WL.split (d := 85) Q0 (fun h5 => ?_) (fun h5 => ?_)
      ·
       replace h5 := not_eq_true h5
       replace h5 := of_decide_eq_false h5
       refine WL.skip (d := 85) Q0 Q0 Q0 Q0 ?_
       refine WL.skip (d := 85) Q0 Q0 Q0 Q0 ?_
       refine WL.skip (d := 85) Q0 Q0 Q0 Q0 ?_
       refine WL.skipU (d := 88) Q0 Q0 Q0 ?_
       refine WL.skipU (d := 88) Q0 Q0 Q0 ?_
       refine WL.skipU (d := 88) Q0 Q0 Q0 ?_
       refine WL.skipU (d := 91) Q0 Q0 Q0 ?_
       refine WL.skipU (d := 91) Q0 Q0 Q0 ?_
       refine WL.skipU (d := 91) Q0 Q0 Q0 ?_
       refine WL.skipU (d := 91) Q0 Q0 Q0 ?_
       refine WL.skipU (d := 88) Q0 Q0 Q0 ?_
       refine WL.skip (d := 85) Q0 Q0 Q0 Q0 ?_
       refine WL.p Q0 (Yl.pickT Q0 Q0) ?_
       refine WL.nil ?_
       refine join _ _ _ ?_ (hs.only Q2) ⟨by rfl, trivial⟩ ⟨by rfl, by rfl, by rfl, by rfl, by rfl, by rfl, by rfl, by rfl, by rfl, by rfl, by rfl, by rfl, by rfl, by rfl, trivial⟩
       (try clear join); (try clear ha); (try clear hs)
       clear hJ5
       simp_all
      ·
       replace h5 := not_eq_false h5
       replace h5 := of_decide_eq_true h5
       refine WL.run (d := 85) Q0 Q0 ?_
       refine Qm ?_
       refine WL.run (d := 85) Q0 Q0 ?_
       refine WL.callp hs Q0 (Yc.func Q0 fn22) (c_impl_IsPassive _ _ (hs.okow (x := x1_l) (F := F1_3) Q1)) ?_
       clear hs; intro w hs
       refine WL.run (d := 85) Q0 Q0 ?_
       refine Qm ?_
       refine WL.split (d := 88) Q0 (fun h6 => ?_) (fun h6 => ?_)
       ·
        refine WL.run (d := 88) Q0 Q0 ?_
        refine Qm ?_
        refine WL.run (d := 88) Q0 Q0 ?_
        refine WL.p Q0 (Yl.nes Q0 Q0) ?_
        refine WL.run (d := 88) Q0 Q0 ?_
        refine Qm ?_
        refine WL.split (d := 91) Q0 (fun h7 => ?_) (fun h7 => ?_)
        ·
         replace h7 := not_eq_true h7
         replace h7 := of_decide_eq_false h7
         refine WL.skip (d := 91) Q0 Q0 Q0 Q0 ?_
         refine WL.skip (d := 91) Q0 Q0 Q0 Q0 ?_
         refine WL.skip (d := 91) Q0 Q0 Q0 Q0 ?_
         refine WL.skip (d := 91) Q0 Q0 Q0 Q0 ?_
         refine WL.run (d := 88) Q0 Q0 ?_
         refine WL.p Q0 (Yl.pickT Q0 Q0) ?_
         refine WL.run (d := 85) Q0 Q0 ?_
         refine WL.p Q0 (Yl.pickT Q0 Q0) ?_
         refine WL.p Q0 (Yl.pickF Q0 Q0) ?_
         refine WL.nil ?_
         refine join _ _ _ ?_ (hs.only Q2) ⟨by rfl, trivial⟩ ⟨by rfl, by rfl, by rfl, by rfl, by rfl, by rfl, by rfl, by rfl, by rfl, by rfl, by rfl, by rfl, by rfl, by rfl, trivial⟩
         (try clear join); (try clear ha); (try clear hs)
         clear hJ5
         simp_all
        ·
         replace h7 := not_eq_false h7
         replace h7 := of_decide_eq_true h7
         refine WL.run (d := 91) Q0 Q0 ?_
         refine WL.p Q0 (Yl.loadAB agg40 Q0 hs Q1 Q0 Q0) ?_
         refine WL.run (d := 91) Q0 Q0 ?_
         refine WL.p Q0 (Yl.loadAB agg40 Q0 hs Q1 Q0 Q0) ?_
         refine WL.run (d := 91) Q0 Q0 ?_
         refine WL.callp hs Q0 (Yc.func Q0 fn20) (c_impl_EqualBuilders _ _ _ (hs.okow (x := x3_xb) (F := F3) Q1) (hs.okow (x := x1_b) (F := F1) Q1)) ?_
         clear hs; intro w hs
         refine WL.run (d := 91) Q0 Q0 ?_
         refine WL.p Q0 (Yl.not Q0) ?_
         refine WL.run (d := 88) Q0 Q0 ?_
         refine WL.p Q0 (Yl.pickF Q0 Q0) ?_
         refine WL.run (d := 85) Q0 Q0 ?_
         refine WL.p Q0 (Yl.pickT Q0 Q0) ?_
         refine WL.p Q0 (Yl.pickF Q0 Q0) ?_
         refine WL.nil ?_
         refine join _ _ _ ?_ (hs.only Q2) ⟨by rfl, trivial⟩ ⟨by rfl, by rfl, by rfl, by rfl, by rfl, by rfl, by rfl, by rfl, by rfl, by rfl, by rfl, by rfl, by rfl, by rfl, trivial⟩
         (try clear join); (try clear ha); (try clear hs)
         clear hJ5
         simp_all
       ·
        refine WL.skip (d := 88) Q0 Q0 Q0 Q0 ?_
        refine WL.skip (d := 88) Q0 Q0 Q0 Q0 ?_
        refine WL.skip (d := 88) Q0 Q0 Q0 Q0 ?_
        refine WL.skipU (d := 91) Q0 Q0 Q0 ?_
        refine WL.skipU (d := 91) Q0 Q0 Q0 ?_
        refine WL.skipU (d := 91) Q0 Q0 Q0 ?_
        refine WL.skipU (d := 91) Q0 Q0 Q0 ?_
        refine WL.skip (d := 88) Q0 Q0 Q0 Q0 ?_
        refine WL.run (d := 85) Q0 Q0 ?_
        refine WL.p Q0 (Yl.pickF Q0 Q0) ?_
        refine WL.p Q0 (Yl.pickF Q0 Q0) ?_
        refine WL.nil ?_
        refine join _ _ _ ?_ (hs.only Q2) ⟨by rfl, trivial⟩ ⟨by rfl, by rfl, by rfl, by rfl, by rfl, by rfl, by rfl, by rfl, by rfl, by rfl, by rfl, by rfl, by rfl, by rfl, trivial⟩
        rfl
   ·
    clear hs; rintro _ w rfl hs
    refine WC.condF Q0 ?_
    refine WC.skipn ?_
    refine WC.seq ?_
    refine Qm ?_
    refine WL.callx hs Q0 (Yc.func Q0 fn23) (c_spec_DrawRunLine _ _ (Ph.old h_code hs)) ?_
    clear hs; intro v w ho hR hs
    obtain ⟨x23_b, x23_sh, x23_y, rfl, hokx23_y, hx23, hf23⟩ := hR
    obtain ⟨F23, F23_2, hs⟩ := hs.addF2 ho hf23
    clear ho hf23
    have hyt : x23_y.text.length ≤ 1048576 := by have h9 := hx23.2.2; simp only [TLine.size] at h9; omega
    have hyb : x23_b.lg.size ≤ 1048576 := by omega
    refine Qm ?_
    refine WL.p Q0 (Yl.extract Q0 Q0) ?_
    refine WL.p Q0 (Yl.extract Q0 Q0) ?_
    refine WL.p Q0 (Yl.extract Q0 Q0) ?_
    refine WL.r Q0 (Yr.alloc hs zt40) ?_
    clear hs; rintro _ w ⟨b24, rfl, hb, hs⟩; clear hb
    refine WL.r Q0 (Yr.alloc hs zt54) ?_
    clear hs; rintro _ w ⟨b25, rfl, hb, hs⟩; clear hb
    refine WL.s (Yr.storeB hs Q0 Q0 Q0 Q5 Q3 Q0 (by exact szf40)) ?_
    clear hs; rintro _ w hs
    refine Qa ?_
    refine WL.s (Yr.storeB hs Q0 Q0 Q0 Q5 Q3 Q0 (by exact szf54)) ?_
    clear hs; rintro _ w hs
    refine WL.next ?_
    refine WC.seq ?_
    refine WL.p Q0 (Yl.loadAB agg40 Q0 hs Q1 Q0 Q0) ?_
    refine Qm ?_
    refine WL.p Q0 (Yl.loadAB agg54 Q0 hs Q1 Q0 Q0) ?_
    refine WL.call hs Q0 (Yc.func Q0 fn19) (c_impl_RunLine _ _ _ _ (hs.okow (x := x23_b) (F := F23) Q1) (hs.okow (x := x23_sh) (F := F23_2) Q1) (Flat.any hokx23_y) (by first | assumption | (have := lsz_take TLine.size x1_l.l k; omega)) (by first | assumption | (have h9 := lsum_le (f := TLine.size) (List.mem_of_getElem? hd); simp only [lsz, TLine.size] at h9 hbb ⊢; omega)) (by first | assumption | exact Sat.tab hs (by assumption))) ?_
    have hs0 := hs; clear hs; intro v w hb hR hs; clear hs
    obtain ⟨x26, rfl, hx26, hf26⟩ := hR
    obtain ⟨F26, hs⟩ := hf26.sat hs0 hb; clear hs0 hf26
    refine Qm ?_
    refine WL.p Q0 (Yl.extract Q0 Q0) ?_
    refine WL.p Q0 (Yl.extract Q0 Q0) ?_
    refine WL.p Q0 (Yl.extract Q0 Q0) ?_
    refine WL.r Q0 (Yr.alloc hs zt40) ?_
    clear hs; rintro _ w ⟨b27, rfl, hb, hs⟩; clear hb
    refine WL.s (Yr.storeB hs Q0 Q0 Q0 Q5 Q3 Q0 (by exact szf40)) ?_
    clear hs; rintro _ w hs
    refine Qa ?_
    refine Qa ?_
    refine WL.next ?_
    refine WC.seq ?_
    refine WL.p Q0 (Yl.loadAB agg40 Q0 hs Q1 Q0 Q0) ?_
    refine Qm ?_
    refine WL.p Q0 (Yl.loadAB agg54 Q0 hs Q1 Q0 Q0) ?_
    refine WL.call hs Q0 (Yc.func Q0 fn24) (c_spec_RunLine _ _ _ _ (hs.okow (x := x23_b) (F := F23) Q1) (hs.okow (x := x23_sh) (F := F23_2) Q1) (Flat.any hokx23_y) (by assumption) (by assumption)) ?_
    have hs0 := hs; clear hs; intro v w hb hR hs; clear hs
    obtain ⟨x28, rfl, hx28, hf28⟩ := hR
    obtain ⟨F28, hs⟩ := hf28.sat hs0 hb; clear hs0 hf28
    refine Qm ?_
    refine WL.p Q0 (Yl.extract Q0 Q0) ?_
    refine WL.p Q0 (Yl.extract Q0 Q0) ?_
    refine WL.p Q0 (Yl.extract Q0 Q0) ?_
    refine WL.r Q0 (Yr.alloc hs zt40) ?_
    clear hs; rintro _ w ⟨b29, rfl, hb, hs⟩; clear hb
    refine WL.s (Yr.storeB hs Q0 Q0 Q0 Q5 Q3 Q0 (by exact szf40)) ?_
    clear hs; rintro _ w hs
    refine Qa ?_
    refine Qa ?_
    refine WL.next ?_
    refine WC.seq ?_
    refine WL.p Q0 (Yl.loadAB agg40 Q0 hs Q1 Q0 Q0) ?_
    refine WL.p Q0 (Yl.loadAB agg40 Q0 hs Q1 Q0 Q0) ?_
    refine WL.callp hs Q0 (Yc.func Q0 fn20) (c_impl_EqualBuilders _ _ _ (hs.okow (x := x26) (F := F26) Q1) (hs.okow (x := x28) (F := F28) Q1)) ?_
    clear hs; intro w hs
    refine Qm ?_
    refine WL.split (d := 124) Q0 (fun h3 => ?_) (fun h3 => ?_)
    ·
     replace h3 := of_decide_eq_true h3
     refine WL.run (d := 124) Q0 Q0 ?_
     refine Qm ?_
     refine WL.run (d := 124) Q0 Q0 ?_
     refine Qm ?_
     refine WL.run (d := 124) Q0 Q0 ?_
     refine WL.p Q0 (Yl.eqs Q0 Q0) ?_
     refine WL.p Q0 (Yl.pickT Q0 Q0) ?_
     refine Qm ?_
     refine WL.split (d := 129) Q0 (fun h4 => ?_) (fun h4 => ?_)
     ·
      replace h4 := of_decide_eq_true h4
      refine WL.run (d := 129) Q0 Q0 ?_
      refine Qm ?_
      refine WL.run (d := 129) Q0 Q0 ?_
      refine Qm ?_
      refine WL.run (d := 129) Q0 Q0 ?_
      refine WL.p Q0 (Yl.eqs Q0 Q0) ?_
      refine WL.p Q0 (Yl.pickT Q0 Q0) ?_
      refine Qa ?_
      refine WL.next ?_
      refine WC.ret ?_
      refine fin1' rfl Q0 ?_
      refine RetP.mk hs ?_
      first
       | rfl
       | (clear hs; simp_all; done)
     ·
      replace h4 := of_decide_eq_false h4
      refine WL.skip (d := 129) Q0 Q0 Q0 Q0 ?_
      refine WL.skip (d := 129) Q0 Q0 Q0 Q0 ?_
      refine WL.skip (d := 129) Q0 Q0 Q0 Q0 ?_
      refine WL.p Q0 (Yl.pickF Q0 Q0) ?_
      refine Qa ?_
      refine WL.next ?_
      refine WC.ret ?_
      refine fin1' rfl Q0 ?_
      refine RetP.mk hs ?_
      first
       | rfl
       | (clear hs; simp_all; done)
    ·
     replace h3 := of_decide_eq_false h3
     refine WL.skip (d := 124) Q0 Q0 Q0 Q0 ?_
     refine WL.skip (d := 124) Q0 Q0 Q0 Q0 ?_
     refine WL.skip (d := 124) Q0 Q0 Q0 Q0 ?_
     refine WL.p Q0 (Yl.pickF Q0 Q0) ?_
     refine Qm ?_
     refine WL.skip (d := 129) Q0 Q0 Q0 Q0 ?_
     refine WL.skip (d := 129) Q0 Q0 Q0 Q0 ?_
     refine WL.skip (d := 129) Q0 Q0 Q0 Q0 ?_
     refine WL.p Q0 (Yl.pickF Q0 Q0) ?_
     refine Qa ?_
     refine WL.next ?_
     refine WC.ret ?_
     refine fin1' rfl Q0 ?_
     refine RetP.mk hs ?_
     first
      | rfl
      | (clear hs; simp_all; done)

end Go.Sw
