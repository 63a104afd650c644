/- Walks: what each function of the program returns, for every input. Printed by gen.py. -/
import Derived.Test.YtppjnohcfljmoaaGreatDoorW2
set_option linter.all false
namespace Go.Sw
open Go Go.RowKit Go.Proofs

set_option maxHeartbeats 4000000 in
theorem c_laws_FnExactFetchNow (aN : PNet) (aTop : Str) (aA : TAddr) (aGuess : Bool) (w : World) (h_aN : Ph.ok w aN) (h_aTop : Ph.ok w aTop) (h_aA : Ph.ok w aA) (hm_ : ∃ m, w.cell? ⟨1, 0, none⟩ = some (.int .i64 m)) : Calls Tryz.prog 3 [.agg #[Sl.v aN.servers, Sl.v aN.cache.entries, Sl.v aN.log, I aN.now], S aTop, .agg #[S aA.host, S aA.path], Bo aGuess].toArray w (RetP w (Bo true)) := by
 refine enterN 125 Tryz.func3 rfl rfl rfl ?_
 have hs := Sat.start w
 refine WC.seq ?_
 refine WL.r Q0 (Yr.box hs Q0 Q0) ?_
 clear hs; rintro _ w ⟨b1, rfl, hb, hs⟩; clear hb
 refine WL.r Q0 (Yr.box hs Q0 Q0) ?_
 clear hs; rintro _ w ⟨b2, rfl, hb, hs⟩; clear hb
 refine Qa ?_
 refine WL.next ?_
 refine WC.seq' ?_
 refine WC.seq ?_
 refine Qm ?_
 refine WL.p Q0 (Yl.len_str str9 Q0) ?_
 refine WL.p Q0 (Yl.gtr Q0 Q0) ?_
 refine WL.next ?_
 refine WC.condS Q0 (fun h1 => ?_) (fun h1 => ?_)
 ·
  replace h1 := of_decide_eq_true h1
  refine WC.seq ?_
  refine Qa ?_
  refine WL.next ?_
  refine WC.ret ?_
  refine At.thenret ?_
  refine fin1' rfl Q0 ?_
  refine RetP.mk hs ?_
  rfl
 ·
  replace h1 := of_decide_eq_false h1
  refine WC.skipn ?_
  refine WC.seq ?_
  refine Qa ?_
  refine WL.next ?_
  refine WC.seq ?_
  refine WL.p Q0 (Yl.loadAB agg28 Q0 hs Q1 Q0 Q0) ?_
  refine Qm ?_
  refine WL.callp hs Q0 (Yc.func Q0 fn11) (c_laws_szNet _ _ _ (Ph.old h_aN hs) (by first | assumption | omega) (by first | assumption | omega)) ?_
  clear hs; intro w hs
  refine Qa ?_
  refine WL.next ?_
  refine WC.seq' ?_
  refine WC.seq ?_
  refine Qm ?_
  refine WL.p Q0 (Yl.lss Q0 Q0) ?_
  refine WL.next ?_
  refine WC.condS Q0 (fun h2 => ?_) (fun h2 => ?_)
  ·
   replace h2 := lessN_neg (of_decide_eq_true h2)
   refine WC.seq ?_
   refine Qa ?_
   refine WL.next ?_
   refine WC.ret ?_
   refine At.thenret ?_
   refine fin1' rfl Q0 ?_
   refine RetP.mk hs ?_
   rfl
  ·
   replace h2 := lessN_nn Q7 (of_decide_eq_false h2)
   refine WC.skipn ?_
   refine WC.seq ?_
   refine WL.p Q0 (Yl.loadAB agg30 Q0 hs Q1 Q0 Q0) ?_
   refine Qm ?_
   refine WL.callp hs Q0 (Yc.func Q0 fn12) (c_laws_szAddr _ _ _ (Ph.old h_aA hs) (by first | assumption | omega) (by first | assumption | omega)) ?_
   clear hs; intro w hs
   refine Qa ?_
   refine WL.next ?_
   refine WC.seq' ?_
   refine WC.seq ?_
   refine Qm ?_
   refine WL.p Q0 (Yl.lss Q0 Q0) ?_
   refine WL.next ?_
   refine WC.condS Q0 (fun h3 => ?_) (fun h3 => ?_)
   ·
    replace h3 := lessN_neg (of_decide_eq_true h3)
    refine WC.seq ?_
    refine Qa ?_
    refine WL.next ?_
    refine WC.ret ?_
    refine At.thenret ?_
    refine fin1' rfl Q0 ?_
    refine RetP.mk hs ?_
    rfl
   ·
    replace h3 := lessN_nn Q7 (of_decide_eq_false h3)
    refine WC.skipn ?_
    refine WC.anynJ (ι := Nat × Nat × PNet × List Nat) (fun ⟨b, c, _, _⟩ => [(10, bp b 0), (11, bp c 0)]) (fun ⟨b, c, x, F⟩ => [box b 39 (Ph.enc x), box c 41 (Ph.enc (fetchR aN.lg aTop aA)), ow x F]) (fun ⟨_, _, x, _⟩ => x.lg = fetchN aN.lg aTop aA aGuess) [(0, _), (1, _), (2, _), (3, _), (4, _), (6, _), (8, _), (9, _), (20, _), (21, _), (22, _), (23, _), (24, _), (25, _), (26, _), (27, _), (28, _), (29, _), (30, _), (31, _), (32, _)] mixed hs ⟨by rfl, by rfl, by rfl, by rfl, by rfl, by rfl, by rfl, by rfl, by rfl, by rfl, by rfl, by rfl, by rfl, by rfl, by rfl, by rfl, by rfl, by rfl, by rfl, by rfl, by rfl, trivial⟩ ?_ ?_
    ·
     clear hs; intro join w hs
     refine WA.pq 0 Q0 hs (fun w hs => Yl.loadAB agg28 Q0 hs Q1 Q0 Q0) ?_
     refine WA.pq 2 Q0 hs (fun w hs => Yl.move Q0) ?_
     refine WA.pq 3 Q0 hs (fun w hs => Yl.loadAB agg30 Q0 hs Q1 Q0 Q0) ?_
     refine WA.pq 5 Q0 hs (fun w hs => Yl.move Q0) ?_
     refine WA.three (i := 1) (j := 10) (k := 11) Q6 ?_ ?_ ?_
     ·
      refine WI.callq 1 Q0 hs (Yc.func Q0 fn14) (c_laws_toNet _ _ (Ph.old h_aN hs) Q7) ?_
      have hs0 := hs; clear hs; intro v w hb hR hs; clear hs
      obtain ⟨x3, rfl, hx3, hf3⟩ := hR
      obtain ⟨F3, hs⟩ := hf3.sat hs0 hb; clear hs0 hf3
      refine WA.three (i := 4) (j := 10) (k := 11) Q6 ?_ ?_ ?_
      ·
       refine WI.callp2 (i := 4) hs (fun _ hs => hs.only Q2) Q0 Q0 (Yc.func Q0 fn15) (c_laws_toAddr _ _) ?_
       clear hs; intro w hs
       refine WA.three (i := 6) (j := 10) (k := 11) Q6 ?_ ?_ ?_
       ·
        refine WI.callq 6 Q0 hs (Yc.func Q0 fn13) (c_spec_FetchNow _ _ _ _ _ (hs.okow (x := x3) (F := F3) Q1) (Ph.old h_aTop hs) (Ph.old h_aA hs) trivial (by rw [hx3]; simp only [TNet.size, lsz] at *; omega) (by rw [hx3]; simp only [TNet.size, lsz] at *; omega) (by have e9 := congrArg (fun z => z.log.length) hx3; simp only [PNet.lg] at e9; simp only [TNet.size, lsz, PNet.lg] at *; omega)) ?_
        have hs0 := hs; clear hs; intro v w hb hR hs; clear hs
        obtain ⟨x4, rfl, hx4, hf4⟩ := hR
        obtain ⟨F4, hs⟩ := hf4.sat hs0 hb; clear hs0 hf4
        refine WA.pq 7 Q0 hs (fun w hs => Yl.move Q0) ?_
        refine WA.pq 8 Q0 hs (fun w hs => Yl.extract Q0 Q0) ?_
        refine WA.pq 9 Q0 hs (fun w hs => Yl.extract Q0 Q0) ?_
        refine WA.two (i := 10) (j := 11) Q6 ?_ ?_
        ·
         refine WI.alq 10 Q0 hs zt39 ?_
         clear hs; intro b5 w hs
         refine WA.alq 11 Q0 hs zt41 ?_
         clear hs; intro b6 w hs
         refine WA.stq 12 Q0 hs szf39 ?_
         clear hs; intro w hs
         refine WA.stq 13 Q0 hs szf41 ?_
         clear hs; intro w hs
         refine WA.donen Q6 ?_
         simp only [hx3, hx4] at hs
         exact join ⟨b5, b6, x4, F4⟩ w _ (by simp only [hx3, hx4]) (hs.only Q2) ⟨by rfl, by rfl, by rfl, by rfl, by rfl, by rfl, by rfl, by rfl, by rfl, by rfl, by rfl, by rfl, by rfl, by rfl, by rfl, by rfl, by rfl, by rfl, by rfl, by rfl, by rfl, trivial⟩ ⟨by rfl, by rfl, trivial⟩
        ·
         refine WI.alq 11 Q0 hs zt41 ?_
         clear hs; intro b7 w hs
         refine WA.alq 10 Q0 hs zt39 ?_
         clear hs; intro b8 w hs
         refine WA.stq 12 Q0 hs szf39 ?_
         clear hs; intro w hs
         refine WA.stq 13 Q0 hs szf41 ?_
         clear hs; intro w hs
         refine WA.donen Q6 ?_
         simp only [hx3, hx4] at hs
         exact join ⟨b8, b7, x4, F4⟩ w _ (by simp only [hx3, hx4]) (hs.only Q2) ⟨by rfl, by rfl, by rfl, by rfl, by rfl, by rfl, by rfl, by rfl, by rfl, by rfl, by rfl, by rfl, by rfl, by rfl, by rfl, by rfl, by rfl, by rfl, by rfl, by rfl, by rfl, trivial⟩ ⟨by rfl, by rfl, trivial⟩
       ·
        refine WI.alq 10 Q0 hs zt39 ?_
        clear hs; intro b9 w hs
        refine WA.two (i := 6) (j := 11) Q6 ?_ ?_
        ·
         refine WI.callq 6 Q0 hs (Yc.func Q0 fn13) (c_spec_FetchNow _ _ _ _ _ (hs.okow (x := x3) (F := F3) Q1) (Ph.old h_aTop hs) (Ph.old h_aA hs) trivial (by rw [hx3]; simp only [TNet.size, lsz] at *; omega) (by rw [hx3]; simp only [TNet.size, lsz] at *; omega) (by have e9 := congrArg (fun z => z.log.length) hx3; simp only [PNet.lg] at e9; simp only [TNet.size, lsz, PNet.lg] at *; omega)) ?_
         have hs0 := hs; clear hs; intro v w hb hR hs; clear hs
         obtain ⟨x10, rfl, hx10, hf10⟩ := hR
         obtain ⟨F10, hs⟩ := hf10.sat hs0 hb; clear hs0 hf10
         refine WA.pq 7 Q0 hs (fun w hs => Yl.move Q0) ?_
         refine WA.pq 8 Q0 hs (fun w hs => Yl.extract Q0 Q0) ?_
         refine WA.pq 9 Q0 hs (fun w hs => Yl.extract Q0 Q0) ?_
         refine WA.alq 11 Q0 hs zt41 ?_
         clear hs; intro b11 w hs
         refine WA.stq 12 Q0 hs szf39 ?_
         clear hs; intro w hs
         refine WA.stq 13 Q0 hs szf41 ?_
         clear hs; intro w hs
         refine WA.donen Q6 ?_
         simp only [hx3, hx10] at hs
         exact join ⟨b9, b11, x10, F10⟩ w _ (by simp only [hx3, hx10]) (hs.only Q2) ⟨by rfl, by rfl, by rfl, by rfl, by rfl, by rfl, by rfl, by rfl, by rfl, by rfl, by rfl, by rfl, by rfl, by rfl, by rfl, by rfl, by rfl, by rfl, by rfl, by rfl, by rfl, trivial⟩ ⟨by rfl, by rfl, trivial⟩
        ·
         refine WI.alq 11 Q0 hs zt41 ?_
         clear hs; intro b12 w hs
         refine WA.callq 6 Q0 hs (Yc.func Q0 fn13) (c_spec_FetchNow _ _ _ _ _ (hs.okow (x := x3) (F := F3) Q1) (Ph.old h_aTop hs) (Ph.old h_aA hs) trivial (by rw [hx3]; simp only [TNet.size, lsz] at *; omega) (by rw [hx3]; simp only [TNet.size, lsz] at *; omega) (by have e9 := congrArg (fun z => z.log.length) hx3; simp only [PNet.lg] at e9; simp only [TNet.size, lsz, PNet.lg] at *; omega)) ?_
         have hs0 := hs; clear hs; intro v w hb hR hs; clear hs
         obtain ⟨x13, rfl, hx13, hf13⟩ := hR
         obtain ⟨F13, hs⟩ := hf13.sat hs0 hb; clear hs0 hf13
         refine WA.pq 7 Q0 hs (fun w hs => Yl.move Q0) ?_
         refine WA.pq 8 Q0 hs (fun w hs => Yl.extract Q0 Q0) ?_
         refine WA.pq 9 Q0 hs (fun w hs => Yl.extract Q0 Q0) ?_
         refine WA.stq 12 Q0 hs szf39 ?_
         clear hs; intro w hs
         refine WA.stq 13 Q0 hs szf41 ?_
         clear hs; intro w hs
         refine WA.donen Q6 ?_
         simp only [hx3, hx13] at hs
         exact join ⟨b9, b12, x13, F13⟩ w _ (by simp only [hx3, hx13]) (hs.only Q2) ⟨by rfl, by rfl, by rfl, by rfl, by rfl, by rfl, by rfl, by rfl, by rfl, by rfl, by rfl, by rfl, by rfl, by rfl, by rfl, by rfl, by rfl, by rfl, by rfl, by rfl, by rfl, trivial⟩ ⟨by rfl, by rfl, trivial⟩
       ·
        refine WI.alq 11 Q0 hs zt41 ?_
        clear hs; intro b14 w hs
        refine WA.two (i := 6) (j := 10) Q6 ?_ ?_
        ·
         refine WI.callq 6 Q0 hs (Yc.func Q0 fn13) (c_spec_FetchNow _ _ _ _ _ (hs.okow (x := x3) (F := F3) Q1) (Ph.old h_aTop hs) (Ph.old h_aA hs) trivial (by rw [hx3]; simp only [TNet.size, lsz] at *; omega) (by rw [hx3]; simp only [TNet.size, lsz] at *; omega) (by have e9 := congrArg (fun z => z.log.length) hx3; simp only [PNet.lg] at e9; simp only [TNet.size, lsz, PNet.lg] at *; omega)) ?_
         have hs0 := hs; clear hs; intro v w hb hR hs; clear hs
         obtain ⟨x15, rfl, hx15, hf15⟩ := hR
         obtain ⟨F15, hs⟩ := hf15.sat hs0 hb; clear hs0 hf15
         refine WA.pq 7 Q0 hs (fun w hs => Yl.move Q0) ?_
         refine WA.pq 8 Q0 hs (fun w hs => Yl.extract Q0 Q0) ?_
         refine WA.pq 9 Q0 hs (fun w hs => Yl.extract Q0 Q0) ?_
         refine WA.alq 10 Q0 hs zt39 ?_
         clear hs; intro b16 w hs
         refine WA.stq 12 Q0 hs szf39 ?_
         clear hs; intro w hs
         refine WA.stq 13 Q0 hs szf41 ?_
         clear hs; intro w hs
         refine WA.donen Q6 ?_
         simp only [hx3, hx15] at hs
         exact join ⟨b16, b14, x15, F15⟩ w _ (by simp only [hx3, hx15]) (hs.only Q2) ⟨by rfl, by rfl, by rfl, by rfl, by rfl, by rfl, by rfl, by rfl, by rfl, by rfl, by rfl, by rfl, by rfl, by rfl, by rfl, by rfl, by rfl, by rfl, by rfl, by rfl, by rfl, trivial⟩ ⟨by rfl, by rfl, trivial⟩
        ·
         refine WI.alq 10 Q0 hs zt39 ?_
         clear hs; intro b17 w hs
         refine WA.callq 6 Q0 hs (Yc.func Q0 fn13) (c_spec_FetchNow _ _ _ _ _ (hs.okow (x := x3) (F := F3) Q1) (Ph.old h_aTop hs) (Ph.old h_aA hs) trivial (by rw [hx3]; simp only [TNet.size, lsz] at *; omega) (by rw [hx3]; simp only [TNet.size, lsz] at *; omega) (by have e9 := congrArg (fun z => z.log.length) hx3; simp only [PNet.lg] at e9; simp only [TNet.size, lsz, PNet.lg] at *; omega)) ?_
         have hs0 := hs; clear hs; intro v w hb hR hs; clear hs
         obtain ⟨x18, rfl, hx18, hf18⟩ := hR
         obtain ⟨F18, hs⟩ := hf18.sat hs0 hb; clear hs0 hf18
         refine WA.pq 7 Q0 hs (fun w hs => Yl.move Q0) ?_
         refine WA.pq 8 Q0 hs (fun w hs => Yl.extract Q0 Q0) ?_
         refine WA.pq 9 Q0 hs (fun w hs => Yl.extract Q0 Q0) ?_
         refine WA.stq 12 Q0 hs szf39 ?_
         clear hs; intro w hs
         refine WA.stq 13 Q0 hs szf41 ?_
         clear hs; intro w hs
         refine WA.donen Q6 ?_
         simp only [hx3, hx18] at hs
         exact join ⟨b17, b14, x18, F18⟩ w _ (by simp only [hx3, hx18]) (hs.only Q2) ⟨by rfl, by rfl, by rfl, by rfl, by rfl, by rfl, by rfl, by rfl, by rfl, by rfl, by rfl, by rfl, by rfl, by rfl, by rfl, by rfl, by rfl, by rfl, by rfl, by rfl, by rfl, trivial⟩ ⟨by rfl, by rfl, trivial⟩
      ·
       refine WI.alq 10 Q0 hs zt39 ?_
       clear hs; intro b19 w hs
       refine WA.two (i := 4) (j := 11) Q6 ?_ ?_
       ·
        refine WI.callp2 (i := 4) hs (fun _ hs => hs.only Q2) Q0 Q0 (Yc.func Q0 fn15) (c_laws_toAddr _ _) ?_
        clear hs; intro w hs
        refine WA.two (i := 6) (j := 11) Q6 ?_ ?_
        ·
         refine WI.callq 6 Q0 hs (Yc.func Q0 fn13) (c_spec_FetchNow _ _ _ _ _ (hs.okow (x := x3) (F := F3) Q1) (Ph.old h_aTop hs) (Ph.old h_aA hs) trivial (by rw [hx3]; simp only [TNet.size, lsz] at *; omega) (by rw [hx3]; simp only [TNet.size, lsz] at *; omega) (by have e9 := congrArg (fun z => z.log.length) hx3; simp only [PNet.lg] at e9; simp only [TNet.size, lsz, PNet.lg] at *; omega)) ?_
         have hs0 := hs; clear hs; intro v w hb hR hs; clear hs
         obtain ⟨x20, rfl, hx20, hf20⟩ := hR
         obtain ⟨F20, hs⟩ := hf20.sat hs0 hb; clear hs0 hf20
         refine WA.pq 7 Q0 hs (fun w hs => Yl.move Q0) ?_
         refine WA.pq 8 Q0 hs (fun w hs => Yl.extract Q0 Q0) ?_
         refine WA.pq 9 Q0 hs (fun w hs => Yl.extract Q0 Q0) ?_
         refine WA.alq 11 Q0 hs zt41 ?_
         clear hs; intro b21 w hs
         refine WA.stq 12 Q0 hs szf39 ?_
         clear hs; intro w hs
         refine WA.stq 13 Q0 hs szf41 ?_
         clear hs; intro w hs
         refine WA.donen Q6 ?_
         simp only [hx3, hx20] at hs
         exact join ⟨b19, b21, x20, F20⟩ w _ (by simp only [hx3, hx20]) (hs.only Q2) ⟨by rfl, by rfl, by rfl, by rfl, by rfl, by rfl, by rfl, by rfl, by rfl, by rfl, by rfl, by rfl, by rfl, by rfl, by rfl, by rfl, by rfl, by rfl, by rfl, by rfl, by rfl, trivial⟩ ⟨by rfl, by rfl, trivial⟩
        ·
         refine WI.alq 11 Q0 hs zt41 ?_
         clear hs; intro b22 w hs
         refine WA.callq 6 Q0 hs (Yc.func Q0 fn13) (c_spec_FetchNow _ _ _ _ _ (hs.okow (x := x3) (F := F3) Q1) (Ph.old h_aTop hs) (Ph.old h_aA hs) trivial (by rw [hx3]; simp only [TNet.size, lsz] at *; omega) (by rw [hx3]; simp only [TNet.size, lsz] at *; omega) (by have e9 := congrArg (fun z => z.log.length) hx3; simp only [PNet.lg] at e9; simp only [TNet.size, lsz, PNet.lg] at *; omega)) ?_
         have hs0 := hs; clear hs; intro v w hb hR hs; clear hs
         obtain ⟨x23, rfl, hx23, hf23⟩ := hR
         obtain ⟨F23, hs⟩ := hf23.sat hs0 hb; clear hs0 hf23
         refine WA.pq 7 Q0 hs (fun w hs => Yl.move Q0) ?_
         refine WA.pq 8 Q0 hs (fun w hs => Yl.extract Q0 Q0) ?_
         refine WA.pq 9 Q0 hs (fun w hs => Yl.extract Q0 Q0) ?_
         refine WA.stq 12 Q0 hs szf39 ?_
         clear hs; intro w hs
         refine WA.stq 13 Q0 hs szf41 ?_
         clear hs; intro w hs
         refine WA.donen Q6 ?_
         simp only [hx3, hx23] at hs
         exact join ⟨b19, b22, x23, F23⟩ w _ (by simp only [hx3, hx23]) (hs.only Q2) ⟨by rfl, by rfl, by rfl, by rfl, by rfl, by rfl, by rfl, by rfl, by rfl, by rfl, by rfl, by rfl, by rfl, by rfl, by rfl, by rfl, by rfl, by rfl, by rfl, by rfl, by rfl, trivial⟩ ⟨by rfl, by rfl, trivial⟩
       ·
        refine WI.alq 11 Q0 hs zt41 ?_
        clear hs; intro b24 w hs
        refine WA.callp2 (i := 4) hs (fun _ hs => hs.only Q2) Q6 Q0 Q0 (Yc.func Q0 fn15) (c_laws_toAddr _ _) ?_
        clear hs; intro w hs
        refine WA.callq 6 Q0 hs (Yc.func Q0 fn13) (c_spec_FetchNow _ _ _ _ _ (hs.okow (x := x3) (F := F3) Q1) (Ph.old h_aTop hs) (Ph.old h_aA hs) trivial (by rw [hx3]; simp only [TNet.size, lsz] at *; omega) (by rw [hx3]; simp only [TNet.size, lsz] at *; omega) (by have e9 := congrArg (fun z => z.log.length) hx3; simp only [PNet.lg] at e9; simp only [TNet.size, lsz, PNet.lg] at *; omega)) ?_
        have hs0 := hs; clear hs; intro v w hb hR hs; clear hs
        obtain ⟨x25, rfl, hx25, hf25⟩ := hR
        obtain ⟨F25, hs⟩ := hf25.sat hs0 hb; clear hs0 hf25
        refine WA.pq 7 Q0 hs (fun w hs => Yl.move Q0) ?_
        refine WA.pq 8 Q0 hs (fun w hs => Yl.extract Q0 Q0) ?_
        refine WA.pq 9 Q0 hs (fun w hs => Yl.extract Q0 Q0) ?_
        refine WA.stq 12 Q0 hs szf39 ?_
        clear hs; intro w hs
        refine WA.stq 13 Q0 hs szf41 ?_
        clear hs; intro w hs
        refine WA.donen Q6 ?_
        simp only [hx3, hx25] at hs
        exact join ⟨b19, b24, x25, F25⟩ w _ (by simp only [hx3, hx25]) (hs.only Q2) ⟨by rfl, by rfl, by rfl, by rfl, by rfl, by rfl, by rfl, by rfl, by rfl, by rfl, by rfl, by rfl, by rfl, by rfl, by rfl, by rfl, by rfl, by rfl, by rfl, by rfl, by rfl, trivial⟩ ⟨by rfl, by rfl, trivial⟩
      ·
       refine WI.alq 11 Q0 hs zt41 ?_
       clear hs; intro b26 w hs
       refine WA.two (i := 4) (j := 10) Q6 ?_ ?_
       ·
        refine WI.callp2 (i := 4) hs (fun _ hs => hs.only Q2) Q0 Q0 (Yc.func Q0 fn15) (c_laws_toAddr _ _) ?_
        clear hs; intro w hs
        refine WA.two (i := 6) (j := 10) Q6 ?_ ?_
        ·
         refine WI.callq 6 Q0 hs (Yc.func Q0 fn13) (c_spec_FetchNow _ _ _ _ _ (hs.okow (x := x3) (F := F3) Q1) (Ph.old h_aTop hs) (Ph.old h_aA hs) trivial (by rw [hx3]; simp only [TNet.size, lsz] at *; omega) (by rw [hx3]; simp only [TNet.size, lsz] at *; omega) (by have e9 := congrArg (fun z => z.log.length) hx3; simp only [PNet.lg] at e9; simp only [TNet.size, lsz, PNet.lg] at *; omega)) ?_
         have hs0 := hs; clear hs; intro v w hb hR hs; clear hs
         obtain ⟨x27, rfl, hx27, hf27⟩ := hR
         obtain ⟨F27, hs⟩ := hf27.sat hs0 hb; clear hs0 hf27
         refine WA.pq 7 Q0 hs (fun w hs => Yl.move Q0) ?_
         refine WA.pq 8 Q0 hs (fun w hs => Yl.extract Q0 Q0) ?_
         refine WA.pq 9 Q0 hs (fun w hs => Yl.extract Q0 Q0) ?_
         refine WA.alq 10 Q0 hs zt39 ?_
         clear hs; intro b28 w hs
         refine WA.stq 12 Q0 hs szf39 ?_
         clear hs; intro w hs
         refine WA.stq 13 Q0 hs szf41 ?_
         clear hs; intro w hs
         refine WA.donen Q6 ?_
         simp only [hx3, hx27] at hs
         exact join ⟨b28, b26, x27, F27⟩ w _ (by simp only [hx3, hx27]) (hs.only Q2) ⟨by rfl, by rfl, by rfl, by rfl, by rfl, by rfl, by rfl, by rfl, by rfl, by rfl, by rfl, by rfl, by rfl, by rfl, by rfl, by rfl, by rfl, by rfl, by rfl, by rfl, by rfl, trivial⟩ ⟨by rfl, by rfl, trivial⟩
        ·
         refine WI.alq 10 Q0 hs zt39 ?_
         clear hs; intro b29 w hs
         refine WA.callq 6 Q0 hs (Yc.func Q0 fn13) (c_spec_FetchNow _ _ _ _ _ (hs.okow (x := x3) (F := F3) Q1) (Ph.old h_aTop hs) (Ph.old h_aA hs) trivial (by rw [hx3]; simp only [TNet.size, lsz] at *; omega) (by rw [hx3]; simp only [TNet.size, lsz] at *; omega) (by have e9 := congrArg (fun z => z.log.length) hx3; simp only [PNet.lg] at e9; simp only [TNet.size, lsz, PNet.lg] at *; omega)) ?_
         have hs0 := hs; clear hs; intro v w hb hR hs; clear hs
         obtain ⟨x30, rfl, hx30, hf30⟩ := hR
         obtain ⟨F30, hs⟩ := hf30.sat hs0 hb; clear hs0 hf30
         refine WA.pq 7 Q0 hs (fun w hs => Yl.move Q0) ?_
         refine WA.pq 8 Q0 hs (fun w hs => Yl.extract Q0 Q0) ?_
         refine WA.pq 9 Q0 hs (fun w hs => Yl.extract Q0 Q0) ?_
         refine WA.stq 12 Q0 hs szf39 ?_
         clear hs; intro w hs
         refine WA.stq 13 Q0 hs szf41 ?_
         clear hs; intro w hs
         refine WA.donen Q6 ?_
         simp only [hx3, hx30] at hs
         exact join ⟨b29, b26, x30, F30⟩ w _ (by simp only [hx3, hx30]) (hs.only Q2) ⟨by rfl, by rfl, by rfl, by rfl, by rfl, by rfl, by rfl, by rfl, by rfl, by rfl, by rfl, by rfl, by rfl, by rfl, by rfl, by rfl, by rfl, by rfl, by rfl, by rfl, by rfl, trivial⟩ ⟨by rfl, by rfl, trivial⟩
       ·
        refine WI.alq 10 Q0 hs zt39 ?_
        clear hs; intro b31 w hs
        refine WA.callp2 (i := 4) hs (fun _ hs => hs.only Q2) Q6 Q0 Q0 (Yc.func Q0 fn15) (c_laws_toAddr _ _) ?_
        clear hs; intro w hs
        refine WA.callq 6 Q0 hs (Yc.func Q0 fn13) (c_spec_FetchNow _ _ _ _ _ (hs.okow (x := x3) (F := F3) Q1) (Ph.old h_aTop hs) (Ph.old h_aA hs) trivial (by rw [hx3]; simp only [TNet.size, lsz] at *; omega) (by rw [hx3]; simp only [TNet.size, lsz] at *; omega) (by have e9 := congrArg (fun z => z.log.length) hx3; simp only [PNet.lg] at e9; simp only [TNet.size, lsz, PNet.lg] at *; omega)) ?_
        have hs0 := hs; clear hs; intro v w hb hR hs; clear hs
        obtain ⟨x32, rfl, hx32, hf32⟩ := hR
        obtain ⟨F32, hs⟩ := hf32.sat hs0 hb; clear hs0 hf32
        refine WA.pq 7 Q0 hs (fun w hs => Yl.move Q0) ?_
        refine WA.pq 8 Q0 hs (fun w hs => Yl.extract Q0 Q0) ?_
        refine WA.pq 9 Q0 hs (fun w hs => Yl.extract Q0 Q0) ?_
        refine WA.stq 12 Q0 hs szf39 ?_
        clear hs; intro w hs
        refine WA.stq 13 Q0 hs szf41 ?_
        clear hs; intro w hs
        refine WA.donen Q6 ?_
        simp only [hx3, hx32] at hs
        exact join ⟨b31, b26, x32, F32⟩ w _ (by simp only [hx3, hx32]) (hs.only Q2) ⟨by rfl, by rfl, by rfl, by rfl, by rfl, by rfl, by rfl, by rfl, by rfl, by rfl, by rfl, by rfl, by rfl, by rfl, by rfl, by rfl, by rfl, by rfl, by rfl, by rfl, by rfl, trivial⟩ ⟨by rfl, by rfl, trivial⟩
     ·
      refine WI.alq 10 Q0 hs zt39 ?_
      clear hs; intro b33 w hs
      refine WA.two (i := 1) (j := 11) Q6 ?_ ?_
      ·
       refine WI.callq 1 Q0 hs (Yc.func Q0 fn14) (c_laws_toNet _ _ (Ph.old h_aN hs) Q7) ?_
       have hs0 := hs; clear hs; intro v w hb hR hs; clear hs
       obtain ⟨x34, rfl, hx34, hf34⟩ := hR
       obtain ⟨F34, hs⟩ := hf34.sat hs0 hb; clear hs0 hf34
       refine WA.two (i := 4) (j := 11) Q6 ?_ ?_
       ·
        refine WI.callp2 (i := 4) hs (fun _ hs => hs.only Q2) Q0 Q0 (Yc.func Q0 fn15) (c_laws_toAddr _ _) ?_
        clear hs; intro w hs
        refine WA.two (i := 6) (j := 11) Q6 ?_ ?_
        ·
         refine WI.callq 6 Q0 hs (Yc.func Q0 fn13) (c_spec_FetchNow _ _ _ _ _ (hs.okow (x := x34) (F := F34) Q1) (Ph.old h_aTop hs) (Ph.old h_aA hs) trivial (by rw [hx34]; simp only [TNet.size, lsz] at *; omega) (by rw [hx34]; simp only [TNet.size, lsz] at *; omega) (by have e9 := congrArg (fun z => z.log.length) hx34; simp only [PNet.lg] at e9; simp only [TNet.size, lsz, PNet.lg] at *; omega)) ?_
         have hs0 := hs; clear hs; intro v w hb hR hs; clear hs
         obtain ⟨x35, rfl, hx35, hf35⟩ := hR
         obtain ⟨F35, hs⟩ := hf35.sat hs0 hb; clear hs0 hf35
         refine WA.pq 7 Q0 hs (fun w hs => Yl.move Q0) ?_
         refine WA.pq 8 Q0 hs (fun w hs => Yl.extract Q0 Q0) ?_
         refine WA.pq 9 Q0 hs (fun w hs => Yl.extract Q0 Q0) ?_
         refine WA.alq 11 Q0 hs zt41 ?_
         clear hs; intro b36 w hs
         refine WA.stq 12 Q0 hs szf39 ?_
         clear hs; intro w hs
         refine WA.stq 13 Q0 hs szf41 ?_
         clear hs; intro w hs
         refine WA.donen Q6 ?_
         simp only [hx34, hx35] at hs
         exact join ⟨b33, b36, x35, F35⟩ w _ (by simp only [hx34, hx35]) (hs.only Q2) ⟨by rfl, by rfl, by rfl, by rfl, by rfl, by rfl, by rfl, by rfl, by rfl, by rfl, by rfl, by rfl, by rfl, by rfl, by rfl, by rfl, by rfl, by rfl, by rfl, by rfl, by rfl, trivial⟩ ⟨by rfl, by rfl, trivial⟩
        ·
         refine WI.alq 11 Q0 hs zt41 ?_
         clear hs; intro b37 w hs
         refine WA.callq 6 Q0 hs (Yc.func Q0 fn13) (c_spec_FetchNow _ _ _ _ _ (hs.okow (x := x34) (F := F34) Q1) (Ph.old h_aTop hs) (Ph.old h_aA hs) trivial (by rw [hx34]; simp only [TNet.size, lsz] at *; omega) (by rw [hx34]; simp only [TNet.size, lsz] at *; omega) (by have e9 := congrArg (fun z => z.log.length) hx34; simp only [PNet.lg] at e9; simp only [TNet.size, lsz, PNet.lg] at *; omega)) ?_
         have hs0 := hs; clear hs; intro v w hb hR hs; clear hs
         obtain ⟨x38, rfl, hx38, hf38⟩ := hR
         obtain ⟨F38, hs⟩ := hf38.sat hs0 hb; clear hs0 hf38
         refine WA.pq 7 Q0 hs (fun w hs => Yl.move Q0) ?_
         refine WA.pq 8 Q0 hs (fun w hs => Yl.extract Q0 Q0) ?_
         refine WA.pq 9 Q0 hs (fun w hs => Yl.extract Q0 Q0) ?_
         refine WA.stq 12 Q0 hs szf39 ?_
         clear hs; intro w hs
         refine WA.stq 13 Q0 hs szf41 ?_
         clear hs; intro w hs
         refine WA.donen Q6 ?_
         simp only [hx34, hx38] at hs
         exact join ⟨b33, b37, x38, F38⟩ w _ (by simp only [hx34, hx38]) (hs.only Q2) ⟨by rfl, by rfl, by rfl, by rfl, by rfl, by rfl, by rfl, by rfl, by rfl, by rfl, by rfl, by rfl, by rfl, by rfl, by rfl, by rfl, by rfl, by rfl, by rfl, by rfl, by rfl, trivial⟩ ⟨by rfl, by rfl, trivial⟩
       ·
        refine WI.alq 11 Q0 hs zt41 ?_
        clear hs; intro b39 w hs
        refine WA.callp2 (i := 4) hs (fun _ hs => hs.only Q2) Q6 Q0 Q0 (Yc.func Q0 fn15) (c_laws_toAddr _ _) ?_
        clear hs; intro w hs
        refine WA.callq 6 Q0 hs (Yc.func Q0 fn13) (c_spec_FetchNow _ _ _ _ _ (hs.okow (x := x34) (F := F34) Q1) (Ph.old h_aTop hs) (Ph.old h_aA hs) trivial (by rw [hx34]; simp only [TNet.size, lsz] at *; omega) (by rw [hx34]; simp only [TNet.size, lsz] at *; omega) (by have e9 := congrArg (fun z => z.log.length) hx34; simp only [PNet.lg] at e9; simp only [TNet.size, lsz, PNet.lg] at *; omega)) ?_
        have hs0 := hs; clear hs; intro v w hb hR hs; clear hs
        obtain ⟨x40, rfl, hx40, hf40⟩ := hR
        obtain ⟨F40, hs⟩ := hf40.sat hs0 hb; clear hs0 hf40
        refine WA.pq 7 Q0 hs (fun w hs => Yl.move Q0) ?_
        refine WA.pq 8 Q0 hs (fun w hs => Yl.extract Q0 Q0) ?_
        refine WA.pq 9 Q0 hs (fun w hs => Yl.extract Q0 Q0) ?_
        refine WA.stq 12 Q0 hs szf39 ?_
        clear hs; intro w hs
        refine WA.stq 13 Q0 hs szf41 ?_
        clear hs; intro w hs
        refine WA.donen Q6 ?_
        simp only [hx34, hx40] at hs
        exact join ⟨b33, b39, x40, F40⟩ w _ (by simp only [hx34, hx40]) (hs.only Q2) ⟨by rfl, by rfl, by rfl, by rfl, by rfl, by rfl, by rfl, by rfl, by rfl, by rfl, by rfl, by rfl, by rfl, by rfl, by rfl, by rfl, by rfl, by rfl, by rfl, by rfl, by rfl, trivial⟩ ⟨by rfl, by rfl, trivial⟩
      ·
       refine WI.alq 11 Q0 hs zt41 ?_
       clear hs; intro b41 w hs
       refine WA.callq 1 Q0 hs (Yc.func Q0 fn14) (c_laws_toNet _ _ (Ph.old h_aN hs) Q7) ?_
       have hs0 := hs; clear hs; intro v w hb hR hs; clear hs
       obtain ⟨x42, rfl, hx42, hf42⟩ := hR
       obtain ⟨F42, hs⟩ := hf42.sat hs0 hb; clear hs0 hf42
       refine WA.callp2 (i := 4) hs (fun _ hs => hs.only Q2) Q6 Q0 Q0 (Yc.func Q0 fn15) (c_laws_toAddr _ _) ?_
       clear hs; intro w hs
       refine WA.callq 6 Q0 hs (Yc.func Q0 fn13) (c_spec_FetchNow _ _ _ _ _ (hs.okow (x := x42) (F := F42) Q1) (Ph.old h_aTop hs) (Ph.old h_aA hs) trivial (by rw [hx42]; simp only [TNet.size, lsz] at *; omega) (by rw [hx42]; simp only [TNet.size, lsz] at *; omega) (by have e9 := congrArg (fun z => z.log.length) hx42; simp only [PNet.lg] at e9; simp only [TNet.size, lsz, PNet.lg] at *; omega)) ?_
       have hs0 := hs; clear hs; intro v w hb hR hs; clear hs
       obtain ⟨x43, rfl, hx43, hf43⟩ := hR
       obtain ⟨F43, hs⟩ := hf43.sat hs0 hb; clear hs0 hf43
       refine WA.pq 7 Q0 hs (fun w hs => Yl.move Q0) ?_
       refine WA.pq 8 Q0 hs (fun w hs => Yl.extract Q0 Q0) ?_
       refine WA.pq 9 Q0 hs (fun w hs => Yl.extract Q0 Q0) ?_
       refine WA.stq 12 Q0 hs szf39 ?_
       clear hs; intro w hs
       refine WA.stq 13 Q0 hs szf41 ?_
       clear hs; intro w hs
       refine WA.donen Q6 ?_
       simp only [hx42, hx43] at hs
       exact join ⟨b33, b41, x43, F43⟩ w _ (by simp only [hx42, hx43]) (hs.only Q2) ⟨by rfl, by rfl, by rfl, by rfl, by rfl, by rfl, by rfl, by rfl, by rfl, by rfl, by rfl, by rfl, by rfl, by rfl, by rfl, by rfl, by rfl, by rfl, by rfl, by rfl, by rfl, trivial⟩ ⟨by rfl, by rfl, trivial⟩
     ·
      refine WI.alq 11 Q0 hs zt41 ?_
      clear hs; intro b44 w hs
      refine WA.two (i := 1) (j := 10) Q6 ?_ ?_
      ·
       refine WI.callq 1 Q0 hs (Yc.func Q0 fn14) (c_laws_toNet _ _ (Ph.old h_aN hs) Q7) ?_
       have hs0 := hs; clear hs; intro v w hb hR hs; clear hs
       obtain ⟨x45, rfl, hx45, hf45⟩ := hR
       obtain ⟨F45, hs⟩ := hf45.sat hs0 hb; clear hs0 hf45
       refine WA.two (i := 4) (j := 10) Q6 ?_ ?_
       ·
        refine WI.callp2 (i := 4) hs (fun _ hs => hs.only Q2) Q0 Q0 (Yc.func Q0 fn15) (c_laws_toAddr _ _) ?_
        clear hs; intro w hs
        refine WA.two (i := 6) (j := 10) Q6 ?_ ?_
        ·
         refine WI.callq 6 Q0 hs (Yc.func Q0 fn13) (c_spec_FetchNow _ _ _ _ _ (hs.okow (x := x45) (F := F45) Q1) (Ph.old h_aTop hs) (Ph.old h_aA hs) trivial (by rw [hx45]; simp only [TNet.size, lsz] at *; omega) (by rw [hx45]; simp only [TNet.size, lsz] at *; omega) (by have e9 := congrArg (fun z => z.log.length) hx45; simp only [PNet.lg] at e9; simp only [TNet.size, lsz, PNet.lg] at *; omega)) ?_
         have hs0 := hs; clear hs; intro v w hb hR hs; clear hs
         obtain ⟨x46, rfl, hx46, hf46⟩ := hR
         obtain ⟨F46, hs⟩ := hf46.sat hs0 hb; clear hs0 hf46
         refine WA.pq 7 Q0 hs (fun w hs => Yl.move Q0) ?_
         refine WA.pq 8 Q0 hs (fun w hs => Yl.extract Q0 Q0) ?_
         refine WA.pq 9 Q0 hs (fun w hs => Yl.extract Q0 Q0) ?_
         refine WA.alq 10 Q0 hs zt39 ?_
         clear hs; intro b47 w hs
         refine WA.stq 12 Q0 hs szf39 ?_
         clear hs; intro w hs
         refine WA.stq 13 Q0 hs szf41 ?_
         clear hs; intro w hs
         refine WA.donen Q6 ?_
         simp only [hx45, hx46] at hs
         exact join ⟨b47, b44, x46, F46⟩ w _ (by simp only [hx45, hx46]) (hs.only Q2) ⟨by rfl, by rfl, by rfl, by rfl, by rfl, by rfl, by rfl, by rfl, by rfl, by rfl, by rfl, by rfl, by rfl, by rfl, by rfl, by rfl, by rfl, by rfl, by rfl, by rfl, by rfl, trivial⟩ ⟨by rfl, by rfl, trivial⟩
        ·
         refine WI.alq 10 Q0 hs zt39 ?_
         clear hs; intro b48 w hs
         refine WA.callq 6 Q0 hs (Yc.func Q0 fn13) (c_spec_FetchNow _ _ _ _ _ (hs.okow (x := x45) (F := F45) Q1) (Ph.old h_aTop hs) (Ph.old h_aA hs) trivial (by rw [hx45]; simp only [TNet.size, lsz] at *; omega) (by rw [hx45]; simp only [TNet.size, lsz] at *; omega) (by have e9 := congrArg (fun z => z.log.length) hx45; simp only [PNet.lg] at e9; simp only [TNet.size, lsz, PNet.lg] at *; omega)) ?_
         have hs0 := hs; clear hs; intro v w hb hR hs; clear hs
         obtain ⟨x49, rfl, hx49, hf49⟩ := hR
         obtain ⟨F49, hs⟩ := hf49.sat hs0 hb; clear hs0 hf49
         refine WA.pq 7 Q0 hs (fun w hs => Yl.move Q0) ?_
         refine WA.pq 8 Q0 hs (fun w hs => Yl.extract Q0 Q0) ?_
         refine WA.pq 9 Q0 hs (fun w hs => Yl.extract Q0 Q0) ?_
         refine WA.stq 12 Q0 hs szf39 ?_
         clear hs; intro w hs
         refine WA.stq 13 Q0 hs szf41 ?_
         clear hs; intro w hs
         refine WA.donen Q6 ?_
         simp only [hx45, hx49] at hs
         exact join ⟨b48, b44, x49, F49⟩ w _ (by simp only [hx45, hx49]) (hs.only Q2) ⟨by rfl, by rfl, by rfl, by rfl, by rfl, by rfl, by rfl, by rfl, by rfl, by rfl, by rfl, by rfl, by rfl, by rfl, by rfl, by rfl, by rfl, by rfl, by rfl, by rfl, by rfl, trivial⟩ ⟨by rfl, by rfl, trivial⟩
       ·
        refine WI.alq 10 Q0 hs zt39 ?_
        clear hs; intro b50 w hs
        refine WA.callp2 (i := 4) hs (fun _ hs => hs.only Q2) Q6 Q0 Q0 (Yc.func Q0 fn15) (c_laws_toAddr _ _) ?_
        clear hs; intro w hs
        refine WA.callq 6 Q0 hs (Yc.func Q0 fn13) (c_spec_FetchNow _ _ _ _ _ (hs.okow (x := x45) (F := F45) Q1) (Ph.old h_aTop hs) (Ph.old h_aA hs) trivial (by rw [hx45]; simp only [TNet.size, lsz] at *; omega) (by rw [hx45]; simp only [TNet.size, lsz] at *; omega) (by have e9 := congrArg (fun z => z.log.length) hx45; simp only [PNet.lg] at e9; simp only [TNet.size, lsz, PNet.lg] at *; omega)) ?_
        have hs0 := hs; clear hs; intro v w hb hR hs; clear hs
        obtain ⟨x51, rfl, hx51, hf51⟩ := hR
        obtain ⟨F51, hs⟩ := hf51.sat hs0 hb; clear hs0 hf51
        refine WA.pq 7 Q0 hs (fun w hs => Yl.move Q0) ?_
        refine WA.pq 8 Q0 hs (fun w hs => Yl.extract Q0 Q0) ?_
        refine WA.pq 9 Q0 hs (fun w hs => Yl.extract Q0 Q0) ?_
        refine WA.stq 12 Q0 hs szf39 ?_
        clear hs; intro w hs
        refine WA.stq 13 Q0 hs szf41 ?_
        clear hs; intro w hs
        refine WA.donen Q6 ?_
        simp only [hx45, hx51] at hs
        exact join ⟨b50, b44, x51, F51⟩ w _ (by simp only [hx45, hx51]) (hs.only Q2) ⟨by rfl, by rfl, by rfl, by rfl, by rfl, by rfl, by rfl, by rfl, by rfl, by rfl, by rfl, by rfl, by rfl, by rfl, by rfl, by rfl, by rfl, by rfl, by rfl, by rfl, by rfl, trivial⟩ ⟨by rfl, by rfl, trivial⟩
      ·
       refine WI.alq 10 Q0 hs zt39 ?_
       clear hs; intro b52 w hs
       refine WA.callq 1 Q0 hs (Yc.func Q0 fn14) (c_laws_toNet _ _ (Ph.old h_aN hs) Q7) ?_
       have hs0 := hs; clear hs; intro v w hb hR hs; clear hs
       obtain ⟨x53, rfl, hx53, hf53⟩ := hR
       obtain ⟨F53, hs⟩ := hf53.sat hs0 hb; clear hs0 hf53
       refine WA.callp2 (i := 4) hs (fun _ hs => hs.only Q2) Q6 Q0 Q0 (Yc.func Q0 fn15) (c_laws_toAddr _ _) ?_
       clear hs; intro w hs
       refine WA.callq 6 Q0 hs (Yc.func Q0 fn13) (c_spec_FetchNow _ _ _ _ _ (hs.okow (x := x53) (F := F53) Q1) (Ph.old h_aTop hs) (Ph.old h_aA hs) trivial (by rw [hx53]; simp only [TNet.size, lsz] at *; omega) (by rw [hx53]; simp only [TNet.size, lsz] at *; omega) (by have e9 := congrArg (fun z => z.log.length) hx53; simp only [PNet.lg] at e9; simp only [TNet.size, lsz, PNet.lg] at *; omega)) ?_
       have hs0 := hs; clear hs; intro v w hb hR hs; clear hs
       obtain ⟨x54, rfl, hx54, hf54⟩ := hR
       obtain ⟨F54, hs⟩ := hf54.sat hs0 hb; clear hs0 hf54
       refine WA.pq 7 Q0 hs (fun w hs => Yl.move Q0) ?_
       refine WA.pq 8 Q0 hs (fun w hs => Yl.extract Q0 Q0) ?_
       refine WA.pq 9 Q0 hs (fun w hs => Yl.extract Q0 Q0) ?_
       refine WA.stq 12 Q0 hs szf39 ?_
       clear hs; intro w hs
       refine WA.stq 13 Q0 hs szf41 ?_
       clear hs; intro w hs
       refine WA.donen Q6 ?_
       simp only [hx53, hx54] at hs
       exact join ⟨b52, b44, x54, F54⟩ w _ (by simp only [hx53, hx54]) (hs.only Q2) ⟨by rfl, by rfl, by rfl, by rfl, by rfl, by rfl, by rfl, by rfl, by rfl, by rfl, by rfl, by rfl, by rfl, by rfl, by rfl, by rfl, by rfl, by rfl, by rfl, by rfl, by rfl, trivial⟩ ⟨by rfl, by rfl, trivial⟩
    ·
     clear hs; rintro ⟨b55, d55, x55, F55⟩ w hx55 hs
     simp only [List.cons_append, List.nil_append] at hs
     replace hx55 : x55.lg = fetchN aN.lg aTop aA aGuess := hx55
     refine WC.seq ?_
     refine WL.p Q0 (Yl.loadAB agg28 Q0 hs Q1 Q0 Q0) ?_
     refine WL.call hs Q0 (Yc.func Q0 fn14) (c_laws_toNet _ _ (Ph.old h_aN hs) Q7) ?_
     have hs0 := hs; clear hs; intro v w hb hR hs; clear hs
     obtain ⟨x56, rfl, hx56, hf56⟩ := hR
     obtain ⟨F56, hs⟩ := hf56.sat hs0 hb; clear hs0 hf56
     refine WL.r Q0 (Yr.alloc hs zt39) ?_
     clear hs; rintro _ w ⟨b57, rfl, hb, hs⟩; clear hb
     refine WL.s (Yr.storeB hs Q0 Q0 Q0 Q5 Q3 Q0 (by exact szf39)) ?_
     clear hs; rintro _ w hs
     refine WL.next ?_
     refine WC.anynJ (ι := Nat × Nat × PNet × List Nat) (fun ⟨b, c, _, _⟩ => [(13, bp b 0), (14, bp c 0)]) (fun ⟨b, c, x, F⟩ => [box b 39 (Ph.enc x), box c 41 (Ph.enc (fetchR aN.lg aTop aA)), ow x F]) (fun ⟨_, _, x, _⟩ => x.lg = fetchN aN.lg aTop aA aGuess) [(0, _), (1, _), (2, _), (3, _), (4, _), (6, _), (8, _), (9, _), (10, _), (11, _), (12, _), (20, _), (21, _), (22, _), (23, _), (24, _), (25, _), (26, _), (27, _), (28, _), (29, _), (30, _), (31, _), (32, _), (43, _), (44, _)] mixed hs ⟨by rfl, by rfl, by rfl, by rfl, by rfl, by rfl, by rfl, by rfl, by rfl, by rfl, by rfl, by rfl, by rfl, by rfl, by rfl, by rfl, by rfl, by rfl, by rfl, by rfl, by rfl, by rfl, by rfl, by rfl, by rfl, by rfl, trivial⟩ ?_ ?_
     ·
      clear hs; intro join w hs
      refine WA.pq 0 Q0 hs (fun w hs => Yl.loadAB agg39 Q0 hs Q1 Q0 Q0) ?_
      refine WA.pq 1 Q0 hs (fun w hs => Yl.move Q0) ?_
      refine WA.pq 2 Q0 hs (fun w hs => Yl.loadAB agg30 Q0 hs Q1 Q0 Q0) ?_
      refine WA.pq 4 Q0 hs (fun w hs => Yl.move Q0) ?_
      refine WA.three (i := 3) (j := 9) (k := 10) Q6 ?_ ?_ ?_
      ·
       refine WI.callp2 (i := 3) hs (fun _ hs => hs.only Q2) Q0 Q0 (Yc.func Q0 fn15) (c_laws_toAddr _ _) ?_
       clear hs; intro w hs
       refine WA.three (i := 5) (j := 9) (k := 10) Q6 ?_ ?_ ?_
       ·
        refine WI.callq 5 Q0 hs (Yc.func Q0 fn16) (c_impl_FetchNow _ _ _ _ _ (hs.okow (x := x56) (F := F56) Q1) (Ph.old h_aTop hs) (Ph.old h_aA hs) trivial (by rw [hx56]; simp only [TNet.size, lsz] at *; omega) (by rw [hx56]; simp only [TNet.size, lsz] at *; omega) (by have e9 := congrArg (fun z => z.log.length) hx56; simp only [PNet.lg] at e9; simp only [TNet.size, lsz, PNet.lg] at *; omega) (by first | assumption | exact Sat.cellm hs (by assumption))) ?_
        have hs0 := hs; clear hs; intro v w hb hR hs; clear hs
        obtain ⟨x58, rfl, hx58, hf58⟩ := hR
        obtain ⟨F58, hs⟩ := hf58.sat hs0 hb; clear hs0 hf58
        refine WA.pq 6 Q0 hs (fun w hs => Yl.move Q0) ?_
        refine WA.pq 7 Q0 hs (fun w hs => Yl.extract Q0 Q0) ?_
        refine WA.pq 8 Q0 hs (fun w hs => Yl.extract Q0 Q0) ?_
        refine WA.two (i := 9) (j := 10) Q6 ?_ ?_
        ·
         refine WI.alq 9 Q0 hs zt39 ?_
         clear hs; intro b59 w hs
         refine WA.alq 10 Q0 hs zt41 ?_
         clear hs; intro b60 w hs
         refine WA.stq 11 Q0 hs szf39 ?_
         clear hs; intro w hs
         refine WA.stq 12 Q0 hs szf41 ?_
         clear hs; intro w hs
         refine WA.donen Q6 ?_
         simp only [hx55, hx56, hx58] at hs
         exact join ⟨b59, b60, x58, F58⟩ w _ (by simp only [hx55, hx56, hx58]) (hs.only Q2) ⟨by rfl, by rfl, by rfl, by rfl, by rfl, by rfl, by rfl, by rfl, by rfl, by rfl, by rfl, by rfl, by rfl, by rfl, by rfl, by rfl, by rfl, by rfl, by rfl, by rfl, by rfl, by rfl, by rfl, by rfl, by rfl, by rfl, trivial⟩ ⟨by rfl, by rfl, trivial⟩
        ·
         refine WI.alq 10 Q0 hs zt41 ?_
         clear hs; intro b61 w hs
         refine WA.alq 9 Q0 hs zt39 ?_
         clear hs; intro b62 w hs
         refine WA.stq 11 Q0 hs szf39 ?_
         clear hs; intro w hs
         refine WA.stq 12 Q0 hs szf41 ?_
         clear hs; intro w hs
         refine WA.donen Q6 ?_
         simp only [hx55, hx56, hx58] at hs
         exact join ⟨b62, b61, x58, F58⟩ w _ (by simp only [hx55, hx56, hx58]) (hs.only Q2) ⟨by rfl, by rfl, by rfl, by rfl, by rfl, by rfl, by rfl, by rfl, by rfl, by rfl, by rfl, by rfl, by rfl, by rfl, by rfl, by rfl, by rfl, by rfl, by rfl, by rfl, by rfl, by rfl, by rfl, by rfl, by rfl, by rfl, trivial⟩ ⟨by rfl, by rfl, trivial⟩
       ·
        refine WI.alq 9 Q0 hs zt39 ?_
        clear hs; intro b63 w hs
        refine WA.two (i := 5) (j := 10) Q6 ?_ ?_
        ·
         refine WI.callq 5 Q0 hs (Yc.func Q0 fn16) (c_impl_FetchNow _ _ _ _ _ (hs.okow (x := x56) (F := F56) Q1) (Ph.old h_aTop hs) (Ph.old h_aA hs) trivial (by rw [hx56]; simp only [TNet.size, lsz] at *; omega) (by rw [hx56]; simp only [TNet.size, lsz] at *; omega) (by have e9 := congrArg (fun z => z.log.length) hx56; simp only [PNet.lg] at e9; simp only [TNet.size, lsz, PNet.lg] at *; omega) (by first | assumption | exact Sat.cellm hs (by assumption))) ?_
         have hs0 := hs; clear hs; intro v w hb hR hs; clear hs
         obtain ⟨x64, rfl, hx64, hf64⟩ := hR
         obtain ⟨F64, hs⟩ := hf64.sat hs0 hb; clear hs0 hf64
         refine WA.pq 6 Q0 hs (fun w hs => Yl.move Q0) ?_
         refine WA.pq 7 Q0 hs (fun w hs => Yl.extract Q0 Q0) ?_
         refine WA.pq 8 Q0 hs (fun w hs => Yl.extract Q0 Q0) ?_
         refine WA.alq 10 Q0 hs zt41 ?_
         clear hs; intro b65 w hs
         refine WA.stq 11 Q0 hs szf39 ?_
         clear hs; intro w hs
         refine WA.stq 12 Q0 hs szf41 ?_
         clear hs; intro w hs
         refine WA.donen Q6 ?_
         simp only [hx55, hx56, hx64] at hs
         exact join ⟨b63, b65, x64, F64⟩ w _ (by simp only [hx55, hx56, hx64]) (hs.only Q2) ⟨by rfl, by rfl, by rfl, by rfl, by rfl, by rfl, by rfl, by rfl, by rfl, by rfl, by rfl, by rfl, by rfl, by rfl, by rfl, by rfl, by rfl, by rfl, by rfl, by rfl, by rfl, by rfl, by rfl, by rfl, by rfl, by rfl, trivial⟩ ⟨by rfl, by rfl, trivial⟩
        ·
         refine WI.alq 10 Q0 hs zt41 ?_
         clear hs; intro b66 w hs
         refine WA.callq 5 Q0 hs (Yc.func Q0 fn16) (c_impl_FetchNow _ _ _ _ _ (hs.okow (x := x56) (F := F56) Q1) (Ph.old h_aTop hs) (Ph.old h_aA hs) trivial (by rw [hx56]; simp only [TNet.size, lsz] at *; omega) (by rw [hx56]; simp only [TNet.size, lsz] at *; omega) (by have e9 := congrArg (fun z => z.log.length) hx56; simp only [PNet.lg] at e9; simp only [TNet.size, lsz, PNet.lg] at *; omega) (by first | assumption | exact Sat.cellm hs (by assumption))) ?_
         have hs0 := hs; clear hs; intro v w hb hR hs; clear hs
         obtain ⟨x67, rfl, hx67, hf67⟩ := hR
         obtain ⟨F67, hs⟩ := hf67.sat hs0 hb; clear hs0 hf67
         refine WA.pq 6 Q0 hs (fun w hs => Yl.move Q0) ?_
         refine WA.pq 7 Q0 hs (fun w hs => Yl.extract Q0 Q0) ?_
         refine WA.pq 8 Q0 hs (fun w hs => Yl.extract Q0 Q0) ?_
         refine WA.stq 11 Q0 hs szf39 ?_
         clear hs; intro w hs
         refine WA.stq 12 Q0 hs szf41 ?_
         clear hs; intro w hs
         refine WA.donen Q6 ?_
         simp only [hx55, hx56, hx67] at hs
         exact join ⟨b63, b66, x67, F67⟩ w _ (by simp only [hx55, hx56, hx67]) (hs.only Q2) ⟨by rfl, by rfl, by rfl, by rfl, by rfl, by rfl, by rfl, by rfl, by rfl, by rfl, by rfl, by rfl, by rfl, by rfl, by rfl, by rfl, by rfl, by rfl, by rfl, by rfl, by rfl, by rfl, by rfl, by rfl, by rfl, by rfl, trivial⟩ ⟨by rfl, by rfl, trivial⟩
       ·
        refine WI.alq 10 Q0 hs zt41 ?_
        clear hs; intro b68 w hs
        refine WA.two (i := 5) (j := 9) Q6 ?_ ?_
        ·
         refine WI.callq 5 Q0 hs (Yc.func Q0 fn16) (c_impl_FetchNow _ _ _ _ _ (hs.okow (x := x56) (F := F56) Q1) (Ph.old h_aTop hs) (Ph.old h_aA hs) trivial (by rw [hx56]; simp only [TNet.size, lsz] at *; omega) (by rw [hx56]; simp only [TNet.size, lsz] at *; omega) (by have e9 := congrArg (fun z => z.log.length) hx56; simp only [PNet.lg] at e9; simp only [TNet.size, lsz, PNet.lg] at *; omega) (by first | assumption | exact Sat.cellm hs (by assumption))) ?_
         have hs0 := hs; clear hs; intro v w hb hR hs; clear hs
         obtain ⟨x69, rfl, hx69, hf69⟩ := hR
         obtain ⟨F69, hs⟩ := hf69.sat hs0 hb; clear hs0 hf69
         refine WA.pq 6 Q0 hs (fun w hs => Yl.move Q0) ?_
         refine WA.pq 7 Q0 hs (fun w hs => Yl.extract Q0 Q0) ?_
         refine WA.pq 8 Q0 hs (fun w hs => Yl.extract Q0 Q0) ?_
         refine WA.alq 9 Q0 hs zt39 ?_
         clear hs; intro b70 w hs
         refine WA.stq 11 Q0 hs szf39 ?_
         clear hs; intro w hs
         refine WA.stq 12 Q0 hs szf41 ?_
         clear hs; intro w hs
         refine WA.donen Q6 ?_
         simp only [hx55, hx56, hx69] at hs
         exact join ⟨b70, b68, x69, F69⟩ w _ (by simp only [hx55, hx56, hx69]) (hs.only Q2) ⟨by rfl, by rfl, by rfl, by rfl, by rfl, by rfl, by rfl, by rfl, by rfl, by rfl, by rfl, by rfl, by rfl, by rfl, by rfl, by rfl, by rfl, by rfl, by rfl, by rfl, by rfl, by rfl, by rfl, by rfl, by rfl, by rfl, trivial⟩ ⟨by rfl, by rfl, trivial⟩
        ·
         refine WI.alq 9 Q0 hs zt39 ?_
         clear hs; intro b71 w hs
         refine WA.callq 5 Q0 hs (Yc.func Q0 fn16) (c_impl_FetchNow _ _ _ _ _ (hs.okow (x := x56) (F := F56) Q1) (Ph.old h_aTop hs) (Ph.old h_aA hs) trivial (by rw [hx56]; simp only [TNet.size, lsz] at *; omega) (by rw [hx56]; simp only [TNet.size, lsz] at *; omega) (by have e9 := congrArg (fun z => z.log.length) hx56; simp only [PNet.lg] at e9; simp only [TNet.size, lsz, PNet.lg] at *; omega) (by first | assumption | exact Sat.cellm hs (by assumption))) ?_
         have hs0 := hs; clear hs; intro v w hb hR hs; clear hs
         obtain ⟨x72, rfl, hx72, hf72⟩ := hR
         obtain ⟨F72, hs⟩ := hf72.sat hs0 hb; clear hs0 hf72
         refine WA.pq 6 Q0 hs (fun w hs => Yl.move Q0) ?_
         refine WA.pq 7 Q0 hs (fun w hs => Yl.extract Q0 Q0) ?_
         refine WA.pq 8 Q0 hs (fun w hs => Yl.extract Q0 Q0) ?_
         refine WA.stq 11 Q0 hs szf39 ?_
         clear hs; intro w hs
         refine WA.stq 12 Q0 hs szf41 ?_
         clear hs; intro w hs
         refine WA.donen Q6 ?_
         simp only [hx55, hx56, hx72] at hs
         exact join ⟨b71, b68, x72, F72⟩ w _ (by simp only [hx55, hx56, hx72]) (hs.only Q2) ⟨by rfl, by rfl, by rfl, by rfl, by rfl, by rfl, by rfl, by rfl, by rfl, by rfl, by rfl, by rfl, by rfl, by rfl, by rfl, by rfl, by rfl, by rfl, by rfl, by rfl, by rfl, by rfl, by rfl, by rfl, by rfl, by rfl, trivial⟩ ⟨by rfl, by rfl, trivial⟩
      ·
       refine WI.alq 9 Q0 hs zt39 ?_
       clear hs; intro b73 w hs
       refine WA.two (i := 3) (j := 10) Q6 ?_ ?_
       ·
        refine WI.callp2 (i := 3) hs (fun _ hs => hs.only Q2) Q0 Q0 (Yc.func Q0 fn15) (c_laws_toAddr _ _) ?_
        clear hs; intro w hs
        refine WA.two (i := 5) (j := 10) Q6 ?_ ?_
        ·
         refine WI.callq 5 Q0 hs (Yc.func Q0 fn16) (c_impl_FetchNow _ _ _ _ _ (hs.okow (x := x56) (F := F56) Q1) (Ph.old h_aTop hs) (Ph.old h_aA hs) trivial (by rw [hx56]; simp only [TNet.size, lsz] at *; omega) (by rw [hx56]; simp only [TNet.size, lsz] at *; omega) (by have e9 := congrArg (fun z => z.log.length) hx56; simp only [PNet.lg] at e9; simp only [TNet.size, lsz, PNet.lg] at *; omega) (by first | assumption | exact Sat.cellm hs (by assumption))) ?_
         have hs0 := hs; clear hs; intro v w hb hR hs; clear hs
         obtain ⟨x74, rfl, hx74, hf74⟩ := hR
         obtain ⟨F74, hs⟩ := hf74.sat hs0 hb; clear hs0 hf74
         refine WA.pq 6 Q0 hs (fun w hs => Yl.move Q0) ?_
         refine WA.pq 7 Q0 hs (fun w hs => Yl.extract Q0 Q0) ?_
         refine WA.pq 8 Q0 hs (fun w hs => Yl.extract Q0 Q0) ?_
         refine WA.alq 10 Q0 hs zt41 ?_
         clear hs; intro b75 w hs
         refine WA.stq 11 Q0 hs szf39 ?_
         clear hs; intro w hs
         refine WA.stq 12 Q0 hs szf41 ?_
         clear hs; intro w hs
         refine WA.donen Q6 ?_
         simp only [hx55, hx56, hx74] at hs
         exact join ⟨b73, b75, x74, F74⟩ w _ (by simp only [hx55, hx56, hx74]) (hs.only Q2) ⟨by rfl, by rfl, by rfl, by rfl, by rfl, by rfl, by rfl, by rfl, by rfl, by rfl, by rfl, by rfl, by rfl, by rfl, by rfl, by rfl, by rfl, by rfl, by rfl, by rfl, by rfl, by rfl, by rfl, by rfl, by rfl, by rfl, trivial⟩ ⟨by rfl, by rfl, trivial⟩
        ·
         refine WI.alq 10 Q0 hs zt41 ?_
         clear hs; intro b76 w hs
         refine WA.callq 5 Q0 hs (Yc.func Q0 fn16) (c_impl_FetchNow _ _ _ _ _ (hs.okow (x := x56) (F := F56) Q1) (Ph.old h_aTop hs) (Ph.old h_aA hs) trivial (by rw [hx56]; simp only [TNet.size, lsz] at *; omega) (by rw [hx56]; simp only [TNet.size, lsz] at *; omega) (by have e9 := congrArg (fun z => z.log.length) hx56; simp only [PNet.lg] at e9; simp only [TNet.size, lsz, PNet.lg] at *; omega) (by first | assumption | exact Sat.cellm hs (by assumption))) ?_
         have hs0 := hs; clear hs; intro v w hb hR hs; clear hs
         obtain ⟨x77, rfl, hx77, hf77⟩ := hR
         obtain ⟨F77, hs⟩ := hf77.sat hs0 hb; clear hs0 hf77
         refine WA.pq 6 Q0 hs (fun w hs => Yl.move Q0) ?_
         refine WA.pq 7 Q0 hs (fun w hs => Yl.extract Q0 Q0) ?_
         refine WA.pq 8 Q0 hs (fun w hs => Yl.extract Q0 Q0) ?_
         refine WA.stq 11 Q0 hs szf39 ?_
         clear hs; intro w hs
         refine WA.stq 12 Q0 hs szf41 ?_
         clear hs; intro w hs
         refine WA.donen Q6 ?_
         simp only [hx55, hx56, hx77] at hs
         exact join ⟨b73, b76, x77, F77⟩ w _ (by simp only [hx55, hx56, hx77]) (hs.only Q2) ⟨by rfl, by rfl, by rfl, by rfl, by rfl, by rfl, by rfl, by rfl, by rfl, by rfl, by rfl, by rfl, by rfl, by rfl, by rfl, by rfl, by rfl, by rfl, by rfl, by rfl, by rfl, by rfl, by rfl, by rfl, by rfl, by rfl, trivial⟩ ⟨by rfl, by rfl, trivial⟩
       ·
        refine WI.alq 10 Q0 hs zt41 ?_
        clear hs; intro b78 w hs
        refine WA.callp2 (i := 3) hs (fun _ hs => hs.only Q2) Q6 Q0 Q0 (Yc.func Q0 fn15) (c_laws_toAddr _ _) ?_
        clear hs; intro w hs
        refine WA.callq 5 Q0 hs (Yc.func Q0 fn16) (c_impl_FetchNow _ _ _ _ _ (hs.okow (x := x56) (F := F56) Q1) (Ph.old h_aTop hs) (Ph.old h_aA hs) trivial (by rw [hx56]; simp only [TNet.size, lsz] at *; omega) (by rw [hx56]; simp only [TNet.size, lsz] at *; omega) (by have e9 := congrArg (fun z => z.log.length) hx56; simp only [PNet.lg] at e9; simp only [TNet.size, lsz, PNet.lg] at *; omega) (by first | assumption | exact Sat.cellm hs (by assumption))) ?_
        have hs0 := hs; clear hs; intro v w hb hR hs; clear hs
        obtain ⟨x79, rfl, hx79, hf79⟩ := hR
        obtain ⟨F79, hs⟩ := hf79.sat hs0 hb; clear hs0 hf79
        refine WA.pq 6 Q0 hs (fun w hs => Yl.move Q0) ?_
        refine WA.pq 7 Q0 hs (fun w hs => Yl.extract Q0 Q0) ?_
        refine WA.pq 8 Q0 hs (fun w hs => Yl.extract Q0 Q0) ?_
        refine WA.stq 11 Q0 hs szf39 ?_
        clear hs; intro w hs
        refine WA.stq 12 Q0 hs szf41 ?_
        clear hs; intro w hs
        refine WA.donen Q6 ?_
        simp only [hx55, hx56, hx79] at hs
        exact join ⟨b73, b78, x79, F79⟩ w _ (by simp only [hx55, hx56, hx79]) (hs.only Q2) ⟨by rfl, by rfl, by rfl, by rfl, by rfl, by rfl, by rfl, by rfl, by rfl, by rfl, by rfl, by rfl, by rfl, by rfl, by rfl, by rfl, by rfl, by rfl, by rfl, by rfl, by rfl, by rfl, by rfl, by rfl, by rfl, by rfl, trivial⟩ ⟨by rfl, by rfl, trivial⟩
      ·
       refine WI.alq 10 Q0 hs zt41 ?_
       clear hs; intro b80 w hs
       refine WA.two (i := 3) (j := 9) Q6 ?_ ?_
       ·
        refine WI.callp2 (i := 3) hs (fun _ hs => hs.only Q2) Q0 Q0 (Yc.func Q0 fn15) (c_laws_toAddr _ _) ?_
        clear hs; intro w hs
        refine WA.two (i := 5) (j := 9) Q6 ?_ ?_
        ·
         refine WI.callq 5 Q0 hs (Yc.func Q0 fn16) (c_impl_FetchNow _ _ _ _ _ (hs.okow (x := x56) (F := F56) Q1) (Ph.old h_aTop hs) (Ph.old h_aA hs) trivial (by rw [hx56]; simp only [TNet.size, lsz] at *; omega) (by rw [hx56]; simp only [TNet.size, lsz] at *; omega) (by have e9 := congrArg (fun z => z.log.length) hx56; simp only [PNet.lg] at e9; simp only [TNet.size, lsz, PNet.lg] at *; omega) (by first | assumption | exact Sat.cellm hs (by assumption))) ?_
         have hs0 := hs; clear hs; intro v w hb hR hs; clear hs
         obtain ⟨x81, rfl, hx81, hf81⟩ := hR
         obtain ⟨F81, hs⟩ := hf81.sat hs0 hb; clear hs0 hf81
         refine WA.pq 6 Q0 hs (fun w hs => Yl.move Q0) ?_
         refine WA.pq 7 Q0 hs (fun w hs => Yl.extract Q0 Q0) ?_
         refine WA.pq 8 Q0 hs (fun w hs => Yl.extract Q0 Q0) ?_
         refine WA.alq 9 Q0 hs zt39 ?_
         clear hs; intro b82 w hs
         refine WA.stq 11 Q0 hs szf39 ?_
         clear hs; intro w hs
         refine WA.stq 12 Q0 hs szf41 ?_
         clear hs; intro w hs
         refine WA.donen Q6 ?_
         simp only [hx55, hx56, hx81] at hs
         exact join ⟨b82, b80, x81, F81⟩ w _ (by simp only [hx55, hx56, hx81]) (hs.only Q2) ⟨by rfl, by rfl, by rfl, by rfl, by rfl, by rfl, by rfl, by rfl, by rfl, by rfl, by rfl, by rfl, by rfl, by rfl, by rfl, by rfl, by rfl, by rfl, by rfl, by rfl, by rfl, by rfl, by rfl, by rfl, by rfl, by rfl, trivial⟩ ⟨by rfl, by rfl, trivial⟩
        ·
         refine WI.alq 9 Q0 hs zt39 ?_
         clear hs; intro b83 w hs
         refine WA.callq 5 Q0 hs (Yc.func Q0 fn16) (c_impl_FetchNow _ _ _ _ _ (hs.okow (x := x56) (F := F56) Q1) (Ph.old h_aTop hs) (Ph.old h_aA hs) trivial (by rw [hx56]; simp only [TNet.size, lsz] at *; omega) (by rw [hx56]; simp only [TNet.size, lsz] at *; omega) (by have e9 := congrArg (fun z => z.log.length) hx56; simp only [PNet.lg] at e9; simp only [TNet.size, lsz, PNet.lg] at *; omega) (by first | assumption | exact Sat.cellm hs (by assumption))) ?_
         have hs0 := hs; clear hs; intro v w hb hR hs; clear hs
         obtain ⟨x84, rfl, hx84, hf84⟩ := hR
         obtain ⟨F84, hs⟩ := hf84.sat hs0 hb; clear hs0 hf84
         refine WA.pq 6 Q0 hs (fun w hs => Yl.move Q0) ?_
         refine WA.pq 7 Q0 hs (fun w hs => Yl.extract Q0 Q0) ?_
         refine WA.pq 8 Q0 hs (fun w hs => Yl.extract Q0 Q0) ?_
         refine WA.stq 11 Q0 hs szf39 ?_
         clear hs; intro w hs
         refine WA.stq 12 Q0 hs szf41 ?_
         clear hs; intro w hs
         refine WA.donen Q6 ?_
         simp only [hx55, hx56, hx84] at hs
         exact join ⟨b83, b80, x84, F84⟩ w _ (by simp only [hx55, hx56, hx84]) (hs.only Q2) ⟨by rfl, by rfl, by rfl, by rfl, by rfl, by rfl, by rfl, by rfl, by rfl, by rfl, by rfl, by rfl, by rfl, by rfl, by rfl, by rfl, by rfl, by rfl, by rfl, by rfl, by rfl, by rfl, by rfl, by rfl, by rfl, by rfl, trivial⟩ ⟨by rfl, by rfl, trivial⟩
       ·
        refine WI.alq 9 Q0 hs zt39 ?_
        clear hs; intro b85 w hs
        refine WA.callp2 (i := 3) hs (fun _ hs => hs.only Q2) Q6 Q0 Q0 (Yc.func Q0 fn15) (c_laws_toAddr _ _) ?_
        clear hs; intro w hs
        refine WA.callq 5 Q0 hs (Yc.func Q0 fn16) (c_impl_FetchNow _ _ _ _ _ (hs.okow (x := x56) (F := F56) Q1) (Ph.old h_aTop hs) (Ph.old h_aA hs) trivial (by rw [hx56]; simp only [TNet.size, lsz] at *; omega) (by rw [hx56]; simp only [TNet.size, lsz] at *; omega) (by have e9 := congrArg (fun z => z.log.length) hx56; simp only [PNet.lg] at e9; simp only [TNet.size, lsz, PNet.lg] at *; omega) (by first | assumption | exact Sat.cellm hs (by assumption))) ?_
        have hs0 := hs; clear hs; intro v w hb hR hs; clear hs
        obtain ⟨x86, rfl, hx86, hf86⟩ := hR
        obtain ⟨F86, hs⟩ := hf86.sat hs0 hb; clear hs0 hf86
        refine WA.pq 6 Q0 hs (fun w hs => Yl.move Q0) ?_
        refine WA.pq 7 Q0 hs (fun w hs => Yl.extract Q0 Q0) ?_
        refine WA.pq 8 Q0 hs (fun w hs => Yl.extract Q0 Q0) ?_
        refine WA.stq 11 Q0 hs szf39 ?_
        clear hs; intro w hs
        refine WA.stq 12 Q0 hs szf41 ?_
        clear hs; intro w hs
        refine WA.donen Q6 ?_
        simp only [hx55, hx56, hx86] at hs
        exact join ⟨b85, b80, x86, F86⟩ w _ (by simp only [hx55, hx56, hx86]) (hs.only Q2) ⟨by rfl, by rfl, by rfl, by rfl, by rfl, by rfl, by rfl, by rfl, by rfl, by rfl, by rfl, by rfl, by rfl, by rfl, by rfl, by rfl, by rfl, by rfl, by rfl, by rfl, by rfl, by rfl, by rfl, by rfl, by rfl, by rfl, trivial⟩ ⟨by rfl, by rfl, trivial⟩
     ·
      clear hs; rintro ⟨b87, d87, x87, F87⟩ w hx87 hs
      simp only [List.cons_append, List.nil_append] at hs
      replace hx87 : x87.lg = fetchN aN.lg aTop aA aGuess := hx87
      refine WC.seq' ?_
      refine WC.seq ?_
      refine WL.p Q0 (Yl.loadAB agg39 Q0 hs Q1 Q0 Q0) ?_
      refine WL.p Q0 (Yl.loadAB agg39 Q0 hs Q1 Q0 Q0) ?_
      refine WL.callp hs Q0 (Yc.func Q0 fn17) (c_laws_eqNet _ _ _ ⟨(hs.okow (x := x87) (F := F87) Q1).servers, ⟨(hs.okow (x := x87) (F := F87) Q1).cache.entries⟩, (hs.okow (x := x87) (F := F87) Q1).log, (hs.okow (x := x87) (F := F87) Q1).now⟩ ⟨(hs.okow (x := x55) (F := F55) Q1).servers, ⟨(hs.okow (x := x55) (F := F55) Q1).cache.entries⟩, (hs.okow (x := x55) (F := F55) Q1).log, (hs.okow (x := x55) (F := F55) Q1).now⟩) ?_
      clear hs; intro w hs
      refine WL.p Q0 (Yl.not Q0) ?_
      refine Qm ?_
      refine WL.split (d := 58) Q0 (fun h4 => ?_) (fun h4 => ?_)
      ·
       replace h4 := not_eq_true h4
       replace h4 := of_decide_eq_false h4
       refine WL.skip (d := 58) Q0 Q0 Q0 Q0 ?_
       refine WL.skip (d := 58) Q0 Q0 Q0 Q0 ?_
       refine WL.skip (d := 58) Q0 Q0 Q0 Q0 ?_
       refine WL.skip (d := 58) Q0 Q0 Q0 Q0 ?_
       refine WL.p Q0 (Yl.pickT Q0 Q0) ?_
       refine WL.next ?_
       refine WC.condT Q0 ?_
       refine WC.seq ?_
       refine Qa ?_
       refine WL.next ?_
       refine WC.ret ?_
       refine At.thenret ?_
       refine fin1' rfl Q0 ?_
       refine RetP.mk hs ?_
       try simp only [hx55, hx56, hx87] at h1 h2 h3 h4
       all_goals (first | (simp only [hx55, hx56, hx87]; done) | (exfalso; omega) | simp_all)
      ·
       replace h4 := not_eq_false h4
       replace h4 := of_decide_eq_true h4
       refine WL.run (d := 58) Q0 Q0 ?_
       refine WL.p Q0 (Yl.loadAB agg41 Q0 hs Q1 Q0 Q0) ?_
       refine WL.run (d := 58) Q0 Q0 ?_
       refine WL.p Q0 (Yl.loadAB agg41 Q0 hs Q1 Q0 Q0) ?_
       refine WL.run (d := 58) Q0 Q0 ?_
       refine WL.callp hs Q0 (Yc.func Q0 fn18) (c_laws_eqResponse _ _ _) ?_
       clear hs; intro w hs
       refine WL.run (d := 58) Q0 Q0 ?_
       refine WL.p Q0 (Yl.not Q0) ?_
       refine WL.p Q0 (Yl.pickF Q0 Q0) ?_
       refine WL.next ?_
       refine WC.condS Q0 (fun h5 => ?_) (fun h5 => ?_)
       ·
        replace h5 := not_eq_true h5
        replace h5 := of_decide_eq_false h5
        refine WC.seq ?_
        refine Qa ?_
        refine WL.next ?_
        refine WC.ret ?_
        refine At.thenret ?_
        refine fin1' rfl Q0 ?_
        refine RetP.mk hs ?_
        try simp only [hx55, hx56, hx87] at h1 h2 h3 h4 h5
        all_goals (first | (simp only [hx55, hx56, hx87]; done) | (exfalso; omega) | simp_all)
       ·
        replace h5 := not_eq_false h5
        replace h5 := of_decide_eq_true h5
        refine WC.skipn ?_
        refine WC.seq' ?_
        refine WC.anyn mixed hs ?_
        clear hs; intro w hs
        refine WA.pq 0 Q0 hs (fun w hs => Yl.loadAB agg39 Q0 hs Q1 Q0 Q0) ?_
        refine WA.pq 1 Q0 hs (fun w hs => Yl.loadAB agg28 Q0 hs Q1 Q0 Q0) ?_
        refine WA.callq 2 Q0 hs (Yc.func Q0 fn14) (c_laws_toNet _ _ (Ph.old h_aN hs) Q7) ?_
        have hs0 := hs; clear hs; intro v w hb hR hs; clear hs
        obtain ⟨x88, rfl, hx88, hf88⟩ := hR
        obtain ⟨F88, hs⟩ := hf88.sat hs0 hb; clear hs0 hf88
        refine WA.callp2 (i := 3) hs (fun _ hs => hs.only Q2) Q6 Q0 Q0 (Yc.func Q0 fn17) (c_laws_eqNet _ _ _ (hs.okow (x := x56) (F := F56) Q1) (hs.okow (x := x88) (F := F88) Q1)) ?_
        clear hs; intro w hs
        refine WA.pq 4 Q0 hs (fun w hs => Yl.not Q0) ?_
        refine WA.donen Q6 ?_
        refine WC.condS Q0 (fun h6 => ?_) (fun h6 => ?_)
        ·
         replace h6 := not_eq_true h6
         replace h6 := of_decide_eq_false h6
         refine WC.seq ?_
         refine Qa ?_
         refine WL.next ?_
         refine WC.ret ?_
         refine At.thenret ?_
         refine fin1' rfl Q0 ?_
         refine RetP.mk hs ?_
         try simp only [hx55, hx56, hx87, hx88] at h1 h2 h3 h4 h5 h6
         all_goals (first | (simp only [hx55, hx56, hx87, hx88]; done) | (exfalso; omega) | simp_all)
        ·
         replace h6 := not_eq_false h6
         replace h6 := of_decide_eq_true h6
         refine WC.skipn ?_
         refine WC.seq ?_
         refine Qa ?_
         refine WL.next ?_
         refine WC.seq ?_
         refine WL.p Q0 (Yl.loadAB agg39 Q0 hs Q1 Q0 Q0) ?_
         refine Qm ?_
         refine WL.callm (a := x56) (F := F56) hs Q2 Q0 (Yc.func Q0 fn19) (c_laws_markNet x56 _ _ F56 (own_of hs Q1) (nodup_of hs Q1) (by first | assumption | omega) (by first | omega | (try simp only [hx55, hx56, hx87, hx88]); (have := costoNet_le aN.lg; have := costFetch_le aN.lg aTop aA aGuess; omega))) ?_
         clear hs; intro a89 F89 w he89 hq89 hs
         refine Qa ?_
         refine WL.next ?_
         refine WC.seq' ?_
         refine WC.seq ?_
         refine Qm ?_
         refine WL.p Q0 (Yl.lss Q0 Q0) ?_
         refine Qm ?_
         refine WL.split (d := 74) Q0 (fun h7 => ?_) (fun h7 => ?_)
         ·
          replace h7 := of_decide_eq_true h7
          refine WL.skip (d := 74) Q0 Q0 Q0 Q0 ?_
          refine WL.skip (d := 74) Q0 Q0 Q0 Q0 ?_
          refine WL.skip (d := 74) Q0 Q0 Q0 Q0 ?_
          refine WL.skip (d := 74) Q0 Q0 Q0 Q0 ?_
          refine WL.p Q0 (Yl.pickT Q0 Q0) ?_
          refine Qm ?_
          refine WL.skip (d := 80) Q0 Q0 Q0 Q0 ?_
          refine WL.skip (d := 80) Q0 Q0 Q0 Q0 ?_
          refine WL.skip (d := 80) Q0 Q0 Q0 Q0 ?_
          refine WL.skip (d := 80) Q0 Q0 Q0 Q0 ?_
          refine WL.p Q0 (Yl.pickT Q0 Q0) ?_
          refine WL.next ?_
          refine WC.condT Q0 ?_
          refine WC.seq ?_
          refine Qa ?_
          refine WL.next ?_
          refine WC.ret ?_
          refine At.thenret ?_
          refine fin1' rfl Q0 ?_
          refine RetP.mk hs ?_
          try simp only [hx55, hx56, hx87, hx88, hq89] at h1 h2 h3 h4 h5 h6 h7
          all_goals (first | (simp only [hx55, hx56, hx87, hx88, hq89]; done) | (exfalso; omega) | simp_all)
         ·
          replace h7 := of_decide_eq_false h7
          refine WL.run (d := 74) Q0 Q0 ?_
          refine WL.p Q0 (Yl.loadAB agg39 Q0 hs Q1 Q0 Q0) ?_
          refine WL.run (d := 74) Q0 Q0 ?_
          refine WL.p Q0 (Yl.loadAB agg39 Q0 hs Q1 Q0 Q0) ?_
          refine WL.run (d := 74) Q0 Q0 ?_
          refine WL.callp hs Q0 (Yc.func Q0 fn17) (c_laws_eqNet _ _ _ ⟨(hs.okow (x := x87) (F := F87) Q1).servers, ⟨(hs.okow (x := x87) (F := F87) Q1).cache.entries⟩, (hs.okow (x := x87) (F := F87) Q1).log, (hs.okow (x := x87) (F := F87) Q1).now⟩ ⟨(hs.okow (x := x55) (F := F55) Q1).servers, ⟨(hs.okow (x := x55) (F := F55) Q1).cache.entries⟩, (hs.okow (x := x55) (F := F55) Q1).log, (hs.okow (x := x55) (F := F55) Q1).now⟩) ?_
          clear hs; intro w hs
          refine WL.run (d := 74) Q0 Q0 ?_
          refine WL.p Q0 (Yl.not Q0) ?_
          refine WL.p Q0 (Yl.pickF Q0 Q0) ?_
          refine Qm ?_
          refine WL.split (d := 80) Q0 (fun h8 => ?_) (fun h8 => ?_)
          ·
           replace h8 := not_eq_true h8
           replace h8 := of_decide_eq_false h8
           refine WL.skip (d := 80) Q0 Q0 Q0 Q0 ?_
           refine WL.skip (d := 80) Q0 Q0 Q0 Q0 ?_
           refine WL.skip (d := 80) Q0 Q0 Q0 Q0 ?_
           refine WL.skip (d := 80) Q0 Q0 Q0 Q0 ?_
           refine WL.p Q0 (Yl.pickT Q0 Q0) ?_
           refine WL.next ?_
           refine WC.condT Q0 ?_
           refine WC.seq ?_
           refine Qa ?_
           refine WL.next ?_
           refine WC.ret ?_
           refine At.thenret ?_
           refine fin1' rfl Q0 ?_
           refine RetP.mk hs ?_
           try simp only [hx55, hx56, hx87, hx88, hq89] at h1 h2 h3 h4 h5 h6 h7 h8
           all_goals (first | (simp only [hx55, hx56, hx87, hx88, hq89]; done) | (exfalso; omega) | simp_all)
          ·
           replace h8 := not_eq_false h8
           replace h8 := of_decide_eq_true h8
           refine WL.run (d := 80) Q0 Q0 ?_
           refine WL.p Q0 (Yl.loadAB agg41 Q0 hs Q1 Q0 Q0) ?_
           refine WL.run (d := 80) Q0 Q0 ?_
           refine WL.p Q0 (Yl.loadAB agg41 Q0 hs Q1 Q0 Q0) ?_
           refine WL.run (d := 80) Q0 Q0 ?_
           refine WL.callp hs Q0 (Yc.func Q0 fn18) (c_laws_eqResponse _ _ _) ?_
           clear hs; intro w hs
           refine WL.run (d := 80) Q0 Q0 ?_
           refine WL.p Q0 (Yl.not Q0) ?_
           refine WL.p Q0 (Yl.pickF Q0 Q0) ?_
           refine WL.next ?_
           refine WC.condS Q0 (fun h9 => ?_) (fun h9 => ?_)
           ·
            replace h9 := not_eq_true h9
            replace h9 := of_decide_eq_false h9
            refine WC.seq ?_
            refine Qa ?_
            refine WL.next ?_
            refine WC.ret ?_
            refine At.thenret ?_
            refine fin1' rfl Q0 ?_
            refine RetP.mk hs ?_
            try simp only [hx55, hx56, hx87, hx88, hq89] at h1 h2 h3 h4 h5 h6 h7 h8 h9
            all_goals (first | (simp only [hx55, hx56, hx87, hx88, hq89]; done) | (exfalso; omega) | simp_all)
           ·
            replace h9 := not_eq_false h9
            replace h9 := of_decide_eq_true h9
            refine WC.skipn ?_
            refine WC.seq ?_
            refine Qa ?_
            refine WL.next ?_
            refine WC.seq ?_
            refine WL.p Q0 (Yl.loadAB agg39 Q0 hs Q1 Q0 Q0) ?_
            refine Qm ?_
            refine WL.callm (a := x87) (F := F87) hs Q2 Q0 (Yc.func Q0 fn19) (c_laws_markNet x87 _ _ F87 (own_of hs Q1) (nodup_of hs Q1) (by first | assumption | omega) (by first | omega | (try simp only [hx55, hx56, hx87, hx88]); (have := costoNet_le aN.lg; have := costFetch_le aN.lg aTop aA aGuess; omega))) ?_
            clear hs; intro a90 F90 w he90 hq90 hs
            refine Qa ?_
            refine WL.next ?_
            refine WC.seq ?_
            refine Qa ?_
            refine WL.next ?_
            refine WC.seq ?_
            refine WL.p Q0 (Yl.loadAB agg39 Q0 hs Q1 Q0 Q0) ?_
            refine Qm ?_
            refine WL.callp hs Q0 (Yc.func Q0 fn20) (calls_conv (congrArg (fun z => ([z, _] : List Value).toArray) (show (.agg #[Sl.v a90.servers, Sl.v a90.cache.entries, Sl.v a90.log, I a90.now] : Value) = .agg #[Sl.v x87.servers, Sl.v x87.cache.entries, Sl.v x87.log, I x87.now] from congrArg (fun l => Value.agg l.toArray) he90)) (c_laws_heldNet a90 _ x87.lg _ (hs.okow (x := a90) (F := F90) Q1) (by first | assumption | omega) (by first | omega | (try simp only [hx55, hx56, hx87, hx88]); (have := costoNet_le aN.lg; have := costFetch_le aN.lg aTop aA aGuess; omega)) (by exact hq90))) ?_
            clear hs; intro w hs
            refine Qa ?_
            refine WL.next ?_
            refine WC.seq' ?_
            refine WC.seq ?_
            refine Qm ?_
            refine WL.p Q0 (Yl.lss Q0 Q0) ?_
            refine WL.next ?_
            refine WC.condS Q0 (fun h10 => ?_) (fun h10 => ?_)
            ·
             replace h10 := of_decide_eq_true h10
             refine WC.seq ?_
             refine Qa ?_
             refine WL.next ?_
             refine WC.ret ?_
             refine At.thenret ?_
             refine fin1' rfl Q0 ?_
             refine RetP.mk hs ?_
             try simp only [hx55, hx56, hx87, hx88, hq89, hq90] at h1 h2 h3 h4 h5 h6 h7 h8 h9 h10
             all_goals (first | (simp only [hx55, hx56, hx87, hx88, hq89, hq90]; done) | (exfalso; omega) | simp_all)
            ·
             replace h10 := of_decide_eq_false h10
             refine WC.skipn ?_
             refine WC.seq' ?_
             refine WC.seq ?_
             refine Qm ?_
             refine Qm ?_
             refine WL.p Q0 (Yl.nei Q0 Q0) ?_
             refine WL.next ?_
             refine WC.condS Q0 (fun h11 => ?_) (fun h11 => ?_)
             ·
              replace h11 := not_eq_true h11
              replace h11 := of_decide_eq_false h11
              refine WC.seq ?_
              refine Qa ?_
              refine WL.next ?_
              refine WC.ret ?_
              refine At.thenret ?_
              refine fin1' rfl Q0 ?_
              refine RetP.mk hs ?_
              try simp only [hx55, hx56, hx87, hx88, hq89, hq90] at h1 h2 h3 h4 h5 h6 h7 h8 h9 h10 h11
              all_goals (first | (simp only [hx55, hx56, hx87, hx88, hq89, hq90]; done) | (exfalso; omega) | simp_all)
             ·
              replace h11 := not_eq_false h11
              replace h11 := of_decide_eq_true h11
              refine WC.skipn ?_
              refine WC.anyn mixed hs ?_
              clear hs; intro w hs
              refine WA.pq 0 Q0 hs (fun w hs => Yl.loadAB agg28 Q0 hs Q1 Q0 Q0) ?_
              refine WA.pq 2 Q0 hs (fun w hs => Yl.move Q0) ?_
              refine WA.pq 3 Q0 hs (fun w hs => Yl.loadAB agg30 Q0 hs Q1 Q0 Q0) ?_
              refine WA.pq 5 Q0 hs (fun w hs => Yl.move Q0) ?_
              refine WA.three (i := 1) (j := 10) (k := 11) Q6 ?_ ?_ ?_
              ·
               refine WI.callq 1 Q0 hs (Yc.func Q0 fn14) (c_laws_toNet _ _ (Ph.old h_aN hs) Q7) ?_
               have hs0 := hs; clear hs; intro v w hb hR hs; clear hs
               obtain ⟨x91, rfl, hx91, hf91⟩ := hR
               obtain ⟨F91, hs⟩ := hf91.sat hs0 hb; clear hs0 hf91
               refine WA.three (i := 4) (j := 10) (k := 11) Q6 ?_ ?_ ?_
               ·
                refine WI.callp2 (i := 4) hs (fun _ hs => hs.only Q2) Q0 Q0 (Yc.func Q0 fn15) (c_laws_toAddr _ _) ?_
                clear hs; intro w hs
                refine WA.three (i := 6) (j := 10) (k := 11) Q6 ?_ ?_ ?_
                ·
                 refine WI.callq 6 Q0 hs (Yc.func Q0 fn16) (c_impl_FetchNow _ _ _ _ _ (hs.okow (x := x91) (F := F91) Q1) (Ph.old h_aTop hs) (Ph.old h_aA hs) trivial (by rw [hx91]; simp only [TNet.size, lsz] at *; omega) (by rw [hx91]; simp only [TNet.size, lsz] at *; omega) (by have e9 := congrArg (fun z => z.log.length) hx91; simp only [PNet.lg] at e9; simp only [TNet.size, lsz, PNet.lg] at *; omega) (by first | assumption | exact Sat.cellm hs (by assumption))) ?_
                 have hs0 := hs; clear hs; intro v w hb hR hs; clear hs
                 obtain ⟨x92, rfl, hx92, hf92⟩ := hR
                 obtain ⟨F92, hs⟩ := hf92.sat hs0 hb; clear hs0 hf92
                 refine WA.pq 7 Q0 hs (fun w hs => Yl.move Q0) ?_
                 refine WA.pq 8 Q0 hs (fun w hs => Yl.extract Q0 Q0) ?_
                 refine WA.pq 9 Q0 hs (fun w hs => Yl.extract Q0 Q0) ?_
                 refine WA.dag' [(⟨10, 18, [], (fun _ v cs => ∃ b, v = bp b 0 ∧ cs = [box b 39 [.slice none 0 0, .slice none 0 0, .slice none 0 0, .int .i64 0]])⟩, []), (⟨11, 19, [], (fun _ v cs => ∃ b, v = bp b 0 ∧ cs = [box b 41 [.int .i64 0, .int .i64 0, .string ⟨#[]⟩, .int .i64 0, .bool false, .string ⟨#[]⟩]])⟩, [])] [false, false] [(0, _), (1, _), (2, _), (3, _), (4, _), (6, _), (8, _), (9, _), (10, _), (11, _), (12, _), (13, _), (14, _), (15, _), (16, _), (17, _), (20, _), (21, _), (22, _), (23, _), (24, _), (25, _), (26, _), (27, _), (28, _), (29, _), (30, _), (31, _), (32, _), (43, _), (44, _), (54, _), (55, _), (56, _), (57, _), (58, _), (59, _), (60, _), (61, _), (62, _), (63, _), (64, _), (65, _), (66, _), (67, _), (68, _), (69, _), (70, _), (71, _), (72, _), (73, _), (74, _), (75, _), (76, _), (77, _), (78, _), (79, _), (80, _), (81, _), (82, _), (83, _), (84, _), (85, _), (86, _), (87, _), (88, _), (89, _), (90, _), (91, _), (92, _), (93, _), (94, _), (95, _), (96, _), (97, _), (98, _), (99, _), (100, _), (101, _), (102, _), (103, _), (104, _), (105, _), (106, _)] ⟨by rfl, by rfl, by rfl, by rfl, by rfl, by rfl, by rfl, by rfl, by rfl, by rfl, by rfl, by rfl, by rfl, by rfl, by rfl, by rfl, by rfl, by rfl, by rfl, by rfl, by rfl, by rfl, by rfl, by rfl, by rfl, by rfl, by rfl, by rfl, by rfl, by rfl, by rfl, by rfl, by rfl, by rfl, by rfl, by rfl, by rfl, by rfl, by rfl, by rfl, by rfl, by rfl, by rfl, by rfl, by rfl, by rfl, by rfl, by rfl, by rfl, by rfl, by rfl, by rfl, by rfl, by rfl, by rfl, by rfl, by rfl, by rfl, by rfl, by rfl, by rfl, by rfl, by rfl, by rfl, by rfl, by rfl, by rfl, by rfl, by rfl, by rfl, by rfl, by rfl, by rfl, by rfl, by rfl, by rfl, by rfl, by rfl, by rfl, by rfl, by rfl, by rfl, by rfl, by rfl, trivial⟩ Q0 Q6 Q6 Q6 Q6 Q6 Q6 Q6 Q6 (fun _ hs => hs.only Q2) hs (fuel := 2) ⟨⟨local_const, ?_⟩, ⟨local_const, ?_⟩, trivial⟩ ?_
                 ·
                  clear hs
                  intro w R hs
                  simp only [List.cons_append, List.nil_append] at hs
                  exact Gives.rr' Q0 (Yr.alloc hs zt39) (fun _ _ ⟨b, hv, _, hs1⟩ => ⟨[box b 39 [.slice none 0 0, .slice none 0 0, .slice none 0 0, .int .i64 0]], ⟨b, hv, rfl⟩, hs1⟩)
                 ·
                  clear hs
                  intro w R hs
                  simp only [List.cons_append, List.nil_append] at hs
                  exact Gives.rr' Q0 (Yr.alloc hs zt41) (fun _ _ ⟨b, hv, _, hs1⟩ => ⟨[box b 41 [.int .i64 0, .int .i64 0, .string ⟨#[]⟩, .int .i64 0, .bool false, .string ⟨#[]⟩]], ⟨b, hv, rfl⟩, hs1⟩)
                 clear hs
                 rintro _ _ ⟨b93, rfl, rfl⟩
                 rintro _ _ ⟨b94, rfl, rfl⟩
                 intro w hs
                 simp only [List.cons_append, List.nil_append, cond_true, cond_false] at hs
                 refine WA.stq 12 Q0 hs szf39 ?_
                 clear hs; intro w hs
                 refine WA.stq 13 Q0 hs szf41 ?_
                 clear hs; intro w hs
                 refine WA.donen Q6 ?_
                 refine WC.seq' ?_
                 refine WC.seq ?_
                 refine WL.p Q0 (Yl.loadAB agg39 Q0 hs Q1 Q0 Q0) ?_
                 refine WL.p Q0 (Yl.loadAB agg39 Q0 hs Q1 Q0 Q0) ?_
                 refine WL.callp hs Q0 (Yc.func Q0 fn17) (c_laws_eqNet _ _ _ (hs.okow (x := x92) (F := F92) Q1) ⟨(hs.okow (x := x55) (F := F55) Q1).servers, ⟨(hs.okow (x := x55) (F := F55) Q1).cache.entries⟩, (hs.okow (x := x55) (F := F55) Q1).log, (hs.okow (x := x55) (F := F55) Q1).now⟩) ?_
                 clear hs; intro w hs
                 refine WL.p Q0 (Yl.not Q0) ?_
                 refine Qm ?_
                 refine WL.split (d := 111) Q0 (fun h12 => ?_) (fun h12 => ?_)
                 ·
                  replace h12 := not_eq_true h12
                  replace h12 := of_decide_eq_false h12
                  refine WL.skip (d := 111) Q0 Q0 Q0 Q0 ?_
                  refine WL.skip (d := 111) Q0 Q0 Q0 Q0 ?_
                  refine WL.skip (d := 111) Q0 Q0 Q0 Q0 ?_
                  refine WL.skip (d := 111) Q0 Q0 Q0 Q0 ?_
                  refine WL.p Q0 (Yl.pickT Q0 Q0) ?_
                  refine WL.next ?_
                  refine WC.condT Q0 ?_
                  refine WC.seq ?_
                  refine Qa ?_
                  refine WL.next ?_
                  refine WC.ret ?_
                  refine At.thenret ?_
                  refine fin1' rfl Q0 ?_
                  refine RetP.mk hs ?_
                  try simp only [hx55, hx56, hx87, hx88, hq89, hq90, hx91, hx92] at h1 h2 h3 h4 h5 h6 h7 h8 h9 h10 h11 h12
                  all_goals (first | (simp only [hx55, hx56, hx87, hx88, hq89, hq90, hx91, hx92]; done) | (exfalso; omega) | simp_all)
                 ·
                  replace h12 := not_eq_false h12
                  replace h12 := of_decide_eq_true h12
                  refine WL.run (d := 111) Q0 Q0 ?_
                  refine WL.p Q0 (Yl.loadAB agg41 Q0 hs Q1 Q0 Q0) ?_
                  refine WL.run (d := 111) Q0 Q0 ?_
                  refine WL.p Q0 (Yl.loadAB agg41 Q0 hs Q1 Q0 Q0) ?_
                  refine WL.run (d := 111) Q0 Q0 ?_
                  refine WL.callp hs Q0 (Yc.func Q0 fn18) (c_laws_eqResponse _ _ _) ?_
                  clear hs; intro w hs
                  refine WL.run (d := 111) Q0 Q0 ?_
                  refine WL.p Q0 (Yl.not Q0) ?_
                  refine WL.p Q0 (Yl.pickF Q0 Q0) ?_
                  refine WL.next ?_
                  refine WC.condS Q0 (fun h13 => ?_) (fun h13 => ?_)
                  ·
                   replace h13 := not_eq_true h13
                   replace h13 := of_decide_eq_false h13
                   refine WC.seq ?_
                   refine Qa ?_
                   refine WL.next ?_
                   refine WC.ret ?_
                   refine At.thenret ?_
                   refine fin1' rfl Q0 ?_
                   refine RetP.mk hs ?_
                   try simp only [hx55, hx56, hx87, hx88, hq89, hq90, hx91, hx92] at h1 h2 h3 h4 h5 h6 h7 h8 h9 h10 h11 h12 h13
                   all_goals (first | (simp only [hx55, hx56, hx87, hx88, hq89, hq90, hx91, hx92]; done) | (exfalso; omega) | simp_all)
                  ·
                   replace h13 := not_eq_false h13
                   replace h13 := of_decide_eq_true h13
                   refine WC.skipn ?_
                   refine WC.seq ?_
                   refine Qa ?_
                   refine WL.next ?_
                   refine WC.seq ?_
                   refine WL.p Q0 (Yl.loadAB agg39 Q0 hs Q1 Q0 Q0) ?_
                   refine Qm ?_
                   refine WL.callp hs Q0 (Yc.func Q0 fn20) (calls_conv (congrArg (fun z => ([z, _] : List Value).toArray) (show (.agg #[Sl.v a90.servers, Sl.v a90.cache.entries, Sl.v a90.log, I a90.now] : Value) = .agg #[Sl.v x87.servers, Sl.v x87.cache.entries, Sl.v x87.log, I x87.now] from congrArg (fun l => Value.agg l.toArray) he90)) (c_laws_heldNet a90 _ x87.lg _ (hs.okow (x := a90) (F := F90) Q1) (by first | assumption | omega) (by first | omega | (try simp only [hx55, hx56, hx87, hx88, hx91, hx92]); (have := costoNet_le aN.lg; have := costFetch_le aN.lg aTop aA aGuess; omega)) (by exact hq90))) ?_
                   clear hs; intro w hs
                   refine Qa ?_
                   refine WL.next ?_
                   refine WC.seq' ?_
                   refine WC.seq ?_
                   refine Qm ?_
                   refine WL.p Q0 (Yl.lss Q0 Q0) ?_
                   refine WL.next ?_
                   refine WC.condS Q0 (fun h14 => ?_) (fun h14 => ?_)
                   ·
                    replace h14 := of_decide_eq_true h14
                    refine WC.seq ?_
                    refine Qa ?_
                    refine WL.next ?_
                    refine WC.ret ?_
                    refine At.thenret ?_
                    refine fin1' rfl Q0 ?_
                    refine RetP.mk hs ?_
                    try simp only [hx55, hx56, hx87, hx88, hq89, hq90, hx91, hx92] at h1 h2 h3 h4 h5 h6 h7 h8 h9 h10 h11 h12 h13 h14
                    all_goals (first | (simp only [hx55, hx56, hx87, hx88, hq89, hq90, hx91, hx92]; done) | (exfalso; omega) | simp_all)
                   ·
                    replace h14 := of_decide_eq_false h14
                    refine WC.skipn ?_
                    refine WC.seq' ?_
                    refine WC.seq ?_
                    refine Qm ?_
                    refine Qm ?_
                    refine WL.p Q0 (Yl.nei Q0 Q0) ?_
                    refine WL.next ?_
                    refine WC.condS Q0 (fun h15 => ?_) (fun h15 => ?_)
                    ·
                     replace h15 := not_eq_true h15
                     replace h15 := of_decide_eq_false h15
                     refine WC.seq ?_
                     refine Qa ?_
                     refine WL.next ?_
                     refine WC.ret ?_
                     refine At.thenret ?_
                     refine fin1' rfl Q0 ?_
                     refine RetP.mk hs ?_
                     try simp only [hx55, hx56, hx87, hx88, hq89, hq90, hx91, hx92] at h1 h2 h3 h4 h5 h6 h7 h8 h9 h10 h11 h12 h13 h14 h15
                     all_goals (first | (simp only [hx55, hx56, hx87, hx88, hq89, hq90, hx91, hx92]; done) | (exfalso; omega) | simp_all)
                    ·
                     replace h15 := not_eq_false h15
                     replace h15 := of_decide_eq_true h15
                     refine WC.skipn ?_
                     refine WC.seq ?_
                     refine Qa ?_
                     refine WL.next ?_
                     refine WC.ret ?_
                     refine fin1' rfl Q0 ?_
                     refine RetP.mk hs ?_
                     rfl
                ·
                 refine WI.alq 10 Q0 hs zt39 ?_
                 clear hs; intro b95 w hs
                 refine WA.two (i := 6) (j := 11) Q6 ?_ ?_
                 ·
                  refine WI.callq 6 Q0 hs (Yc.func Q0 fn16) (c_impl_FetchNow _ _ _ _ _ (hs.okow (x := x91) (F := F91) Q1) (Ph.old h_aTop hs) (Ph.old h_aA hs) trivial (by rw [hx91]; simp only [TNet.size, lsz] at *; omega) (by rw [hx91]; simp only [TNet.size, lsz] at *; omega) (by have e9 := congrArg (fun z => z.log.length) hx91; simp only [PNet.lg] at e9; simp only [TNet.size, lsz, PNet.lg] at *; omega) (by first | assumption | exact Sat.cellm hs (by assumption))) ?_
                  have hs0 := hs; clear hs; intro v w hb hR hs; clear hs
                  obtain ⟨x96, rfl, hx96, hf96⟩ := hR
                  obtain ⟨F96, hs⟩ := hf96.sat hs0 hb; clear hs0 hf96
                  refine WA.pq 7 Q0 hs (fun w hs => Yl.move Q0) ?_
                  refine WA.pq 8 Q0 hs (fun w hs => Yl.extract Q0 Q0) ?_
                  refine WA.pq 9 Q0 hs (fun w hs => Yl.extract Q0 Q0) ?_
                  refine WA.alq 11 Q0 hs zt41 ?_
                  clear hs; intro b97 w hs
                  refine WA.stq 12 Q0 hs szf39 ?_
                  clear hs; intro w hs
                  refine WA.stq 13 Q0 hs szf41 ?_
                  clear hs; intro w hs
                  refine WA.donen Q6 ?_
                  refine WC.seq' ?_
                  refine WC.seq ?_
                  refine WL.p Q0 (Yl.loadAB agg39 Q0 hs Q1 Q0 Q0) ?_
                  refine WL.p Q0 (Yl.loadAB agg39 Q0 hs Q1 Q0 Q0) ?_
                  refine WL.callp hs Q0 (Yc.func Q0 fn17) (c_laws_eqNet _ _ _ (hs.okow (x := x96) (F := F96) Q1) ⟨(hs.okow (x := x55) (F := F55) Q1).servers, ⟨(hs.okow (x := x55) (F := F55) Q1).cache.entries⟩, (hs.okow (x := x55) (F := F55) Q1).log, (hs.okow (x := x55) (F := F55) Q1).now⟩) ?_
                  clear hs; intro w hs
                  refine WL.p Q0 (Yl.not Q0) ?_
                  refine Qm ?_
                  refine WL.split (d := 111) Q0 (fun h12 => ?_) (fun h12 => ?_)
                  ·
                   replace h12 := not_eq_true h12
                   replace h12 := of_decide_eq_false h12
                   refine WL.skip (d := 111) Q0 Q0 Q0 Q0 ?_
                   refine WL.skip (d := 111) Q0 Q0 Q0 Q0 ?_
                   refine WL.skip (d := 111) Q0 Q0 Q0 Q0 ?_
                   refine WL.skip (d := 111) Q0 Q0 Q0 Q0 ?_
                   refine WL.p Q0 (Yl.pickT Q0 Q0) ?_
                   refine WL.next ?_
                   refine WC.condT Q0 ?_
                   refine WC.seq ?_
                   refine Qa ?_
                   refine WL.next ?_
                   refine WC.ret ?_
                   refine At.thenret ?_
                   refine fin1' rfl Q0 ?_
                   refine RetP.mk hs ?_
                   try simp only [hx55, hx56, hx87, hx88, hq89, hq90, hx91, hx96] at h1 h2 h3 h4 h5 h6 h7 h8 h9 h10 h11 h12
                   all_goals (first | (simp only [hx55, hx56, hx87, hx88, hq89, hq90, hx91, hx96]; done) | (exfalso; omega) | simp_all)
                  ·
                   replace h12 := not_eq_false h12
                   replace h12 := of_decide_eq_true h12
                   refine WL.run (d := 111) Q0 Q0 ?_
                   refine WL.p Q0 (Yl.loadAB agg41 Q0 hs Q1 Q0 Q0) ?_
                   refine WL.run (d := 111) Q0 Q0 ?_
                   refine WL.p Q0 (Yl.loadAB agg41 Q0 hs Q1 Q0 Q0) ?_
                   refine WL.run (d := 111) Q0 Q0 ?_
                   refine WL.callp hs Q0 (Yc.func Q0 fn18) (c_laws_eqResponse _ _ _) ?_
                   clear hs; intro w hs
                   refine WL.run (d := 111) Q0 Q0 ?_
                   refine WL.p Q0 (Yl.not Q0) ?_
                   refine WL.p Q0 (Yl.pickF Q0 Q0) ?_
                   refine WL.next ?_
                   refine WC.condS Q0 (fun h13 => ?_) (fun h13 => ?_)
                   ·
                    replace h13 := not_eq_true h13
                    replace h13 := of_decide_eq_false h13
                    refine WC.seq ?_
                    refine Qa ?_
                    refine WL.next ?_
                    refine WC.ret ?_
                    refine At.thenret ?_
                    refine fin1' rfl Q0 ?_
                    refine RetP.mk hs ?_
                    try simp only [hx55, hx56, hx87, hx88, hq89, hq90, hx91, hx96] at h1 h2 h3 h4 h5 h6 h7 h8 h9 h10 h11 h12 h13
                    all_goals (first | (simp only [hx55, hx56, hx87, hx88, hq89, hq90, hx91, hx96]; done) | (exfalso; omega) | simp_all)
                   ·
                    replace h13 := not_eq_false h13
                    replace h13 := of_decide_eq_true h13
                    refine WC.skipn ?_
                    refine WC.seq ?_
                    refine Qa ?_
                    refine WL.next ?_
                    refine WC.seq ?_
                    refine WL.p Q0 (Yl.loadAB agg39 Q0 hs Q1 Q0 Q0) ?_
                    refine Qm ?_
                    refine WL.callp hs Q0 (Yc.func Q0 fn20) (calls_conv (congrArg (fun z => ([z, _] : List Value).toArray) (show (.agg #[Sl.v a90.servers, Sl.v a90.cache.entries, Sl.v a90.log, I a90.now] : Value) = .agg #[Sl.v x87.servers, Sl.v x87.cache.entries, Sl.v x87.log, I x87.now] from congrArg (fun l => Value.agg l.toArray) he90)) (c_laws_heldNet a90 _ x87.lg _ (hs.okow (x := a90) (F := F90) Q1) (by first | assumption | omega) (by first | omega | (try simp only [hx55, hx56, hx87, hx88, hx91, hx96]); (have := costoNet_le aN.lg; have := costFetch_le aN.lg aTop aA aGuess; omega)) (by exact hq90))) ?_
                    clear hs; intro w hs
                    refine Qa ?_
                    refine WL.next ?_
                    refine WC.seq' ?_
                    refine WC.seq ?_
                    refine Qm ?_
                    refine WL.p Q0 (Yl.lss Q0 Q0) ?_
                    refine WL.next ?_
                    refine WC.condS Q0 (fun h14 => ?_) (fun h14 => ?_)
                    ·
                     replace h14 := of_decide_eq_true h14
                     refine WC.seq ?_
                     refine Qa ?_
                     refine WL.next ?_
                     refine WC.ret ?_
                     refine At.thenret ?_
                     refine fin1' rfl Q0 ?_
                     refine RetP.mk hs ?_
                     try simp only [hx55, hx56, hx87, hx88, hq89, hq90, hx91, hx96] at h1 h2 h3 h4 h5 h6 h7 h8 h9 h10 h11 h12 h13 h14
                     all_goals (first | (simp only [hx55, hx56, hx87, hx88, hq89, hq90, hx91, hx96]; done) | (exfalso; omega) | simp_all)
                    ·
                     replace h14 := of_decide_eq_false h14
                     refine WC.skipn ?_
                     refine WC.seq' ?_
                     refine WC.seq ?_
                     refine Qm ?_
                     refine Qm ?_
                     refine WL.p Q0 (Yl.nei Q0 Q0) ?_
                     refine WL.next ?_
                     refine WC.condS Q0 (fun h15 => ?_) (fun h15 => ?_)
                     ·
                      replace h15 := not_eq_true h15
                      replace h15 := of_decide_eq_false h15
                      refine WC.seq ?_
                      refine Qa ?_
                      refine WL.next ?_
                      refine WC.ret ?_
                      refine At.thenret ?_
                      refine fin1' rfl Q0 ?_
                      refine RetP.mk hs ?_
                      try simp only [hx55, hx56, hx87, hx88, hq89, hq90, hx91, hx96] at h1 h2 h3 h4 h5 h6 h7 h8 h9 h10 h11 h12 h13 h14 h15
                      all_goals (first | (simp only [hx55, hx56, hx87, hx88, hq89, hq90, hx91, hx96]; done) | (exfalso; omega) | simp_all)
                     ·
                      replace h15 := not_eq_false h15
                      replace h15 := of_decide_eq_true h15
                      refine WC.skipn ?_
                      refine WC.seq ?_
                      refine Qa ?_
                      refine WL.next ?_
                      refine WC.ret ?_
                      refine fin1' rfl Q0 ?_
                      refine RetP.mk hs ?_
                      rfl
                 ·
                  refine WI.alq 11 Q0 hs zt41 ?_
                  clear hs; intro b98 w hs
                  refine WA.callq 6 Q0 hs (Yc.func Q0 fn16) (c_impl_FetchNow _ _ _ _ _ (hs.okow (x := x91) (F := F91) Q1) (Ph.old h_aTop hs) (Ph.old h_aA hs) trivial (by rw [hx91]; simp only [TNet.size, lsz] at *; omega) (by rw [hx91]; simp only [TNet.size, lsz] at *; omega) (by have e9 := congrArg (fun z => z.log.length) hx91; simp only [PNet.lg] at e9; simp only [TNet.size, lsz, PNet.lg] at *; omega) (by first | assumption | exact Sat.cellm hs (by assumption))) ?_
                  have hs0 := hs; clear hs; intro v w hb hR hs; clear hs
                  obtain ⟨x99, rfl, hx99, hf99⟩ := hR
                  obtain ⟨F99, hs⟩ := hf99.sat hs0 hb; clear hs0 hf99
                  refine WA.pq 7 Q0 hs (fun w hs => Yl.move Q0) ?_
                  refine WA.pq 8 Q0 hs (fun w hs => Yl.extract Q0 Q0) ?_
                  refine WA.pq 9 Q0 hs (fun w hs => Yl.extract Q0 Q0) ?_
                  refine WA.stq 12 Q0 hs szf39 ?_
                  clear hs; intro w hs
                  refine WA.stq 13 Q0 hs szf41 ?_
                  clear hs; intro w hs
                  refine WA.donen Q6 ?_
                  refine WC.seq' ?_
                  refine WC.seq ?_
                  refine WL.p Q0 (Yl.loadAB agg39 Q0 hs Q1 Q0 Q0) ?_
                  refine WL.p Q0 (Yl.loadAB agg39 Q0 hs Q1 Q0 Q0) ?_
                  refine WL.callp hs Q0 (Yc.func Q0 fn17) (c_laws_eqNet _ _ _ (hs.okow (x := x99) (F := F99) Q1) ⟨(hs.okow (x := x55) (F := F55) Q1).servers, ⟨(hs.okow (x := x55) (F := F55) Q1).cache.entries⟩, (hs.okow (x := x55) (F := F55) Q1).log, (hs.okow (x := x55) (F := F55) Q1).now⟩) ?_
                  clear hs; intro w hs
                  refine WL.p Q0 (Yl.not Q0) ?_
                  refine Qm ?_
                  refine WL.split (d := 111) Q0 (fun h12 => ?_) (fun h12 => ?_)
                  ·
                   replace h12 := not_eq_true h12
                   replace h12 := of_decide_eq_false h12
                   refine WL.skip (d := 111) Q0 Q0 Q0 Q0 ?_
                   refine WL.skip (d := 111) Q0 Q0 Q0 Q0 ?_
                   refine WL.skip (d := 111) Q0 Q0 Q0 Q0 ?_
                   refine WL.skip (d := 111) Q0 Q0 Q0 Q0 ?_
                   refine WL.p Q0 (Yl.pickT Q0 Q0) ?_
                   refine WL.next ?_
                   refine WC.condT Q0 ?_
                   refine WC.seq ?_
                   refine Qa ?_
                   refine WL.next ?_
                   refine WC.ret ?_
                   refine At.thenret ?_
                   refine fin1' rfl Q0 ?_
                   refine RetP.mk hs ?_
                   try simp only [hx55, hx56, hx87, hx88, hq89, hq90, hx91, hx99] at h1 h2 h3 h4 h5 h6 h7 h8 h9 h10 h11 h12
                   all_goals (first | (simp only [hx55, hx56, hx87, hx88, hq89, hq90, hx91, hx99]; done) | (exfalso; omega) | simp_all)
                  ·
                   replace h12 := not_eq_false h12
                   replace h12 := of_decide_eq_true h12
                   refine WL.run (d := 111) Q0 Q0 ?_
                   refine WL.p Q0 (Yl.loadAB agg41 Q0 hs Q1 Q0 Q0) ?_
                   refine WL.run (d := 111) Q0 Q0 ?_
                   refine WL.p Q0 (Yl.loadAB agg41 Q0 hs Q1 Q0 Q0) ?_
                   refine WL.run (d := 111) Q0 Q0 ?_
                   refine WL.callp hs Q0 (Yc.func Q0 fn18) (c_laws_eqResponse _ _ _) ?_
                   clear hs; intro w hs
                   refine WL.run (d := 111) Q0 Q0 ?_
                   refine WL.p Q0 (Yl.not Q0) ?_
                   refine WL.p Q0 (Yl.pickF Q0 Q0) ?_
                   refine WL.next ?_
                   refine WC.condS Q0 (fun h13 => ?_) (fun h13 => ?_)
                   ·
                    replace h13 := not_eq_true h13
                    replace h13 := of_decide_eq_false h13
                    refine WC.seq ?_
                    refine Qa ?_
                    refine WL.next ?_
                    refine WC.ret ?_
                    refine At.thenret ?_
                    refine fin1' rfl Q0 ?_
                    refine RetP.mk hs ?_
                    try simp only [hx55, hx56, hx87, hx88, hq89, hq90, hx91, hx99] at h1 h2 h3 h4 h5 h6 h7 h8 h9 h10 h11 h12 h13
                    all_goals (first | (simp only [hx55, hx56, hx87, hx88, hq89, hq90, hx91, hx99]; done) | (exfalso; omega) | simp_all)
                   ·
                    replace h13 := not_eq_false h13
                    replace h13 := of_decide_eq_true h13
                    refine WC.skipn ?_
                    refine WC.seq ?_
                    refine Qa ?_
                    refine WL.next ?_
                    refine WC.seq ?_
                    refine WL.p Q0 (Yl.loadAB agg39 Q0 hs Q1 Q0 Q0) ?_
                    refine Qm ?_
                    refine WL.callp hs Q0 (Yc.func Q0 fn20) (calls_conv (congrArg (fun z => ([z, _] : List Value).toArray) (show (.agg #[Sl.v a90.servers, Sl.v a90.cache.entries, Sl.v a90.log, I a90.now] : Value) = .agg #[Sl.v x87.servers, Sl.v x87.cache.entries, Sl.v x87.log, I x87.now] from congrArg (fun l => Value.agg l.toArray) he90)) (c_laws_heldNet a90 _ x87.lg _ (hs.okow (x := a90) (F := F90) Q1) (by first | assumption | omega) (by first | omega | (try simp only [hx55, hx56, hx87, hx88, hx91, hx99]); (have := costoNet_le aN.lg; have := costFetch_le aN.lg aTop aA aGuess; omega)) (by exact hq90))) ?_
                    clear hs; intro w hs
                    refine Qa ?_
                    refine WL.next ?_
                    refine WC.seq' ?_
                    refine WC.seq ?_
                    refine Qm ?_
                    refine WL.p Q0 (Yl.lss Q0 Q0) ?_
                    refine WL.next ?_
                    refine WC.condS Q0 (fun h14 => ?_) (fun h14 => ?_)
                    ·
                     replace h14 := of_decide_eq_true h14
                     refine WC.seq ?_
                     refine Qa ?_
                     refine WL.next ?_
                     refine WC.ret ?_
                     refine At.thenret ?_
                     refine fin1' rfl Q0 ?_
                     refine RetP.mk hs ?_
                     try simp only [hx55, hx56, hx87, hx88, hq89, hq90, hx91, hx99] at h1 h2 h3 h4 h5 h6 h7 h8 h9 h10 h11 h12 h13 h14
                     all_goals (first | (simp only [hx55, hx56, hx87, hx88, hq89, hq90, hx91, hx99]; done) | (exfalso; omega) | simp_all)
                    ·
                     replace h14 := of_decide_eq_false h14
                     refine WC.skipn ?_
                     refine WC.seq' ?_
                     refine WC.seq ?_
                     refine Qm ?_
                     refine Qm ?_
                     refine WL.p Q0 (Yl.nei Q0 Q0) ?_
                     refine WL.next ?_
                     refine WC.condS Q0 (fun h15 => ?_) (fun h15 => ?_)
                     ·
                      replace h15 := not_eq_true h15
                      replace h15 := of_decide_eq_false h15
                      refine WC.seq ?_
                      refine Qa ?_
                      refine WL.next ?_
                      refine WC.ret ?_
                      refine At.thenret ?_
                      refine fin1' rfl Q0 ?_
                      refine RetP.mk hs ?_
                      try simp only [hx55, hx56, hx87, hx88, hq89, hq90, hx91, hx99] at h1 h2 h3 h4 h5 h6 h7 h8 h9 h10 h11 h12 h13 h14 h15
                      all_goals (first | (simp only [hx55, hx56, hx87, hx88, hq89, hq90, hx91, hx99]; done) | (exfalso; omega) | simp_all)
                     ·
                      replace h15 := not_eq_false h15
                      replace h15 := of_decide_eq_true h15
                      refine WC.skipn ?_
                      refine WC.seq ?_
                      refine Qa ?_
                      refine WL.next ?_
                      refine WC.ret ?_
                      refine fin1' rfl Q0 ?_
                      refine RetP.mk hs ?_
                      rfl
                ·
                 refine WI.alq 11 Q0 hs zt41 ?_
                 clear hs; intro b100 w hs
                 refine WA.two (i := 6) (j := 10) Q6 ?_ ?_
                 ·
                  refine WI.callq 6 Q0 hs (Yc.func Q0 fn16) (c_impl_FetchNow _ _ _ _ _ (hs.okow (x := x91) (F := F91) Q1) (Ph.old h_aTop hs) (Ph.old h_aA hs) trivial (by rw [hx91]; simp only [TNet.size, lsz] at *; omega) (by rw [hx91]; simp only [TNet.size, lsz] at *; omega) (by have e9 := congrArg (fun z => z.log.length) hx91; simp only [PNet.lg] at e9; simp only [TNet.size, lsz, PNet.lg] at *; omega) (by first | assumption | exact Sat.cellm hs (by assumption))) ?_
                  have hs0 := hs; clear hs; intro v w hb hR hs; clear hs
                  obtain ⟨x101, rfl, hx101, hf101⟩ := hR
                  obtain ⟨F101, hs⟩ := hf101.sat hs0 hb; clear hs0 hf101
                  refine WA.pq 7 Q0 hs (fun w hs => Yl.move Q0) ?_
                  refine WA.pq 8 Q0 hs (fun w hs => Yl.extract Q0 Q0) ?_
                  refine WA.pq 9 Q0 hs (fun w hs => Yl.extract Q0 Q0) ?_
                  refine WA.alq 10 Q0 hs zt39 ?_
                  clear hs; intro b102 w hs
                  refine WA.stq 12 Q0 hs szf39 ?_
                  clear hs; intro w hs
                  refine WA.stq 13 Q0 hs szf41 ?_
                  clear hs; intro w hs
                  refine WA.donen Q6 ?_
                  refine WC.seq' ?_
                  refine WC.seq ?_
                  refine WL.p Q0 (Yl.loadAB agg39 Q0 hs Q1 Q0 Q0) ?_
                  refine WL.p Q0 (Yl.loadAB agg39 Q0 hs Q1 Q0 Q0) ?_
                  refine WL.callp hs Q0 (Yc.func Q0 fn17) (c_laws_eqNet _ _ _ (hs.okow (x := x101) (F := F101) Q1) ⟨(hs.okow (x := x55) (F := F55) Q1).servers, ⟨(hs.okow (x := x55) (F := F55) Q1).cache.entries⟩, (hs.okow (x := x55) (F := F55) Q1).log, (hs.okow (x := x55) (F := F55) Q1).now⟩) ?_
                  clear hs; intro w hs
                  refine WL.p Q0 (Yl.not Q0) ?_
                  refine Qm ?_
                  refine WL.split (d := 111) Q0 (fun h12 => ?_) (fun h12 => ?_)
                  ·
                   replace h12 := not_eq_true h12
                   replace h12 := of_decide_eq_false h12
                   refine WL.skip (d := 111) Q0 Q0 Q0 Q0 ?_
                   refine WL.skip (d := 111) Q0 Q0 Q0 Q0 ?_
                   refine WL.skip (d := 111) Q0 Q0 Q0 Q0 ?_
                   refine WL.skip (d := 111) Q0 Q0 Q0 Q0 ?_
                   refine WL.p Q0 (Yl.pickT Q0 Q0) ?_
                   refine WL.next ?_
                   refine WC.condT Q0 ?_
                   refine WC.seq ?_
                   refine Qa ?_
                   refine WL.next ?_
                   refine WC.ret ?_
                   refine At.thenret ?_
                   refine fin1' rfl Q0 ?_
                   refine RetP.mk hs ?_
                   try simp only [hx55, hx56, hx87, hx88, hq89, hq90, hx91, hx101] at h1 h2 h3 h4 h5 h6 h7 h8 h9 h10 h11 h12
                   all_goals (first | (simp only [hx55, hx56, hx87, hx88, hq89, hq90, hx91, hx101]; done) | (exfalso; omega) | simp_all)
                  ·
                   replace h12 := not_eq_false h12
                   replace h12 := of_decide_eq_true h12
                   refine WL.run (d := 111) Q0 Q0 ?_
                   refine WL.p Q0 (Yl.loadAB agg41 Q0 hs Q1 Q0 Q0) ?_
                   refine WL.run (d := 111) Q0 Q0 ?_
                   refine WL.p Q0 (Yl.loadAB agg41 Q0 hs Q1 Q0 Q0) ?_
                   refine WL.run (d := 111) Q0 Q0 ?_
                   refine WL.callp hs Q0 (Yc.func Q0 fn18) (c_laws_eqResponse _ _ _) ?_
                   clear hs; intro w hs
                   refine WL.run (d := 111) Q0 Q0 ?_
                   refine WL.p Q0 (Yl.not Q0) ?_
                   refine WL.p Q0 (Yl.pickF Q0 Q0) ?_
                   refine WL.next ?_
                   refine WC.condS Q0 (fun h13 => ?_) (fun h13 => ?_)
                   ·
                    replace h13 := not_eq_true h13
                    replace h13 := of_decide_eq_false h13
                    refine WC.seq ?_
                    refine Qa ?_
                    refine WL.next ?_
                    refine WC.ret ?_
                    refine At.thenret ?_
                    refine fin1' rfl Q0 ?_
                    refine RetP.mk hs ?_
                    try simp only [hx55, hx56, hx87, hx88, hq89, hq90, hx91, hx101] at h1 h2 h3 h4 h5 h6 h7 h8 h9 h10 h11 h12 h13
                    all_goals (first | (simp only [hx55, hx56, hx87, hx88, hq89, hq90, hx91, hx101]; done) | (exfalso; omega) | simp_all)
                   ·
                    replace h13 := not_eq_false h13
                    replace h13 := of_decide_eq_true h13
                    refine WC.skipn ?_
                    refine WC.seq ?_
                    refine Qa ?_
                    refine WL.next ?_
                    refine WC.seq ?_
                    refine WL.p Q0 (Yl.loadAB agg39 Q0 hs Q1 Q0 Q0) ?_
                    refine Qm ?_
                    refine WL.callp hs Q0 (Yc.func Q0 fn20) (calls_conv (congrArg (fun z => ([z, _] : List Value).toArray) (show (.agg #[Sl.v a90.servers, Sl.v a90.cache.entries, Sl.v a90.log, I a90.now] : Value) = .agg #[Sl.v x87.servers, Sl.v x87.cache.entries, Sl.v x87.log, I x87.now] from congrArg (fun l => Value.agg l.toArray) he90)) (c_laws_heldNet a90 _ x87.lg _ (hs.okow (x := a90) (F := F90) Q1) (by first | assumption | omega) (by first | omega | (try simp only [hx55, hx56, hx87, hx88, hx91, hx101]); (have := costoNet_le aN.lg; have := costFetch_le aN.lg aTop aA aGuess; omega)) (by exact hq90))) ?_
                    clear hs; intro w hs
                    refine Qa ?_
                    refine WL.next ?_
                    refine WC.seq' ?_
                    refine WC.seq ?_
                    refine Qm ?_
                    refine WL.p Q0 (Yl.lss Q0 Q0) ?_
                    refine WL.next ?_
                    refine WC.condS Q0 (fun h14 => ?_) (fun h14 => ?_)
                    ·
                     replace h14 := of_decide_eq_true h14
                     refine WC.seq ?_
                     refine Qa ?_
                     refine WL.next ?_
                     refine WC.ret ?_
                     refine At.thenret ?_
                     refine fin1' rfl Q0 ?_
                     refine RetP.mk hs ?_
                     try simp only [hx55, hx56, hx87, hx88, hq89, hq90, hx91, hx101] at h1 h2 h3 h4 h5 h6 h7 h8 h9 h10 h11 h12 h13 h14
                     all_goals (first | (simp only [hx55, hx56, hx87, hx88, hq89, hq90, hx91, hx101]; done) | (exfalso; omega) | simp_all)
                    ·
                     replace h14 := of_decide_eq_false h14
                     refine WC.skipn ?_
                     refine WC.seq' ?_
                     refine WC.seq ?_
                     refine Qm ?_
                     refine Qm ?_
                     refine WL.p Q0 (Yl.nei Q0 Q0) ?_
                     refine WL.next ?_
                     refine WC.condS Q0 (fun h15 => ?_) (fun h15 => ?_)
                     ·
                      replace h15 := not_eq_true h15
                      replace h15 := of_decide_eq_false h15
                      refine WC.seq ?_
                      refine Qa ?_
                      refine WL.next ?_
                      refine WC.ret ?_
                      refine At.thenret ?_
                      refine fin1' rfl Q0 ?_
                      refine RetP.mk hs ?_
                      try simp only [hx55, hx56, hx87, hx88, hq89, hq90, hx91, hx101] at h1 h2 h3 h4 h5 h6 h7 h8 h9 h10 h11 h12 h13 h14 h15
                      all_goals (first | (simp only [hx55, hx56, hx87, hx88, hq89, hq90, hx91, hx101]; done) | (exfalso; omega) | simp_all)
                     ·
                      replace h15 := not_eq_false h15
                      replace h15 := of_decide_eq_true h15
                      refine WC.skipn ?_
                      refine WC.seq ?_
                      refine Qa ?_
                      refine WL.next ?_
                      refine WC.ret ?_
                      refine fin1' rfl Q0 ?_
                      refine RetP.mk hs ?_
                      rfl
                 ·
                  refine WI.alq 10 Q0 hs zt39 ?_
                  clear hs; intro b103 w hs
                  refine WA.callq 6 Q0 hs (Yc.func Q0 fn16) (c_impl_FetchNow _ _ _ _ _ (hs.okow (x := x91) (F := F91) Q1) (Ph.old h_aTop hs) (Ph.old h_aA hs) trivial (by rw [hx91]; simp only [TNet.size, lsz] at *; omega) (by rw [hx91]; simp only [TNet.size, lsz] at *; omega) (by have e9 := congrArg (fun z => z.log.length) hx91; simp only [PNet.lg] at e9; simp only [TNet.size, lsz, PNet.lg] at *; omega) (by first | assumption | exact Sat.cellm hs (by assumption))) ?_
                  have hs0 := hs; clear hs; intro v w hb hR hs; clear hs
                  obtain ⟨x104, rfl, hx104, hf104⟩ := hR
                  obtain ⟨F104, hs⟩ := hf104.sat hs0 hb; clear hs0 hf104
                  refine WA.pq 7 Q0 hs (fun w hs => Yl.move Q0) ?_
                  refine WA.pq 8 Q0 hs (fun w hs => Yl.extract Q0 Q0) ?_
                  refine WA.pq 9 Q0 hs (fun w hs => Yl.extract Q0 Q0) ?_
                  refine WA.stq 12 Q0 hs szf39 ?_
                  clear hs; intro w hs
                  refine WA.stq 13 Q0 hs szf41 ?_
                  clear hs; intro w hs
                  refine WA.donen Q6 ?_
                  refine WC.seq' ?_
                  refine WC.seq ?_
                  refine WL.p Q0 (Yl.loadAB agg39 Q0 hs Q1 Q0 Q0) ?_
                  refine WL.p Q0 (Yl.loadAB agg39 Q0 hs Q1 Q0 Q0) ?_
                  refine WL.callp hs Q0 (Yc.func Q0 fn17) (c_laws_eqNet _ _ _ (hs.okow (x := x104) (F := F104) Q1) ⟨(hs.okow (x := x55) (F := F55) Q1).servers, ⟨(hs.okow (x := x55) (F := F55) Q1).cache.entries⟩, (hs.okow (x := x55) (F := F55) Q1).log, (hs.okow (x := x55) (F := F55) Q1).now⟩) ?_
                  clear hs; intro w hs
                  refine WL.p Q0 (Yl.not Q0) ?_
                  refine Qm ?_
                  refine WL.split (d := 111) Q0 (fun h12 => ?_) (fun h12 => ?_)
                  ·
                   replace h12 := not_eq_true h12
                   replace h12 := of_decide_eq_false h12
                   refine WL.skip (d := 111) Q0 Q0 Q0 Q0 ?_
                   refine WL.skip (d := 111) Q0 Q0 Q0 Q0 ?_
                   refine WL.skip (d := 111) Q0 Q0 Q0 Q0 ?_
                   refine WL.skip (d := 111) Q0 Q0 Q0 Q0 ?_
                   refine WL.p Q0 (Yl.pickT Q0 Q0) ?_
                   refine WL.next ?_
                   refine WC.condT Q0 ?_
                   refine WC.seq ?_
                   refine Qa ?_
                   refine WL.next ?_
                   refine WC.ret ?_
                   refine At.thenret ?_
                   refine fin1' rfl Q0 ?_
                   refine RetP.mk hs ?_
                   try simp only [hx55, hx56, hx87, hx88, hq89, hq90, hx91, hx104] at h1 h2 h3 h4 h5 h6 h7 h8 h9 h10 h11 h12
                   all_goals (first | (simp only [hx55, hx56, hx87, hx88, hq89, hq90, hx91, hx104]; done) | (exfalso; omega) | simp_all)
                  ·
                   replace h12 := not_eq_false h12
                   replace h12 := of_decide_eq_true h12
                   refine WL.run (d := 111) Q0 Q0 ?_
                   refine WL.p Q0 (Yl.loadAB agg41 Q0 hs Q1 Q0 Q0) ?_
                   refine WL.run (d := 111) Q0 Q0 ?_
                   refine WL.p Q0 (Yl.loadAB agg41 Q0 hs Q1 Q0 Q0) ?_
                   refine WL.run (d := 111) Q0 Q0 ?_
                   refine WL.callp hs Q0 (Yc.func Q0 fn18) (c_laws_eqResponse _ _ _) ?_
                   clear hs; intro w hs
                   refine WL.run (d := 111) Q0 Q0 ?_
                   refine WL.p Q0 (Yl.not Q0) ?_
                   refine WL.p Q0 (Yl.pickF Q0 Q0) ?_
                   refine WL.next ?_
                   refine WC.condS Q0 (fun h13 => ?_) (fun h13 => ?_)
                   ·
                    replace h13 := not_eq_true h13
                    replace h13 := of_decide_eq_false h13
                    refine WC.seq ?_
                    refine Qa ?_
                    refine WL.next ?_
                    refine WC.ret ?_
                    refine At.thenret ?_
                    refine fin1' rfl Q0 ?_
                    refine RetP.mk hs ?_
                    try simp only [hx55, hx56, hx87, hx88, hq89, hq90, hx91, hx104] at h1 h2 h3 h4 h5 h6 h7 h8 h9 h10 h11 h12 h13
                    all_goals (first | (simp only [hx55, hx56, hx87, hx88, hq89, hq90, hx91, hx104]; done) | (exfalso; omega) | simp_all)
                   ·
                    replace h13 := not_eq_false h13
                    replace h13 := of_decide_eq_true h13
                    refine WC.skipn ?_
                    refine WC.seq ?_
                    refine Qa ?_
                    refine WL.next ?_
                    refine WC.seq ?_
                    refine WL.p Q0 (Yl.loadAB agg39 Q0 hs Q1 Q0 Q0) ?_
                    refine Qm ?_
                    refine WL.callp hs Q0 (Yc.func Q0 fn20) (calls_conv (congrArg (fun z => ([z, _] : List Value).toArray) (show (.agg #[Sl.v a90.servers, Sl.v a90.cache.entries, Sl.v a90.log, I a90.now] : Value) = .agg #[Sl.v x87.servers, Sl.v x87.cache.entries, Sl.v x87.log, I x87.now] from congrArg (fun l => Value.agg l.toArray) he90)) (c_laws_heldNet a90 _ x87.lg _ (hs.okow (x := a90) (F := F90) Q1) (by first | assumption | omega) (by first | omega | (try simp only [hx55, hx56, hx87, hx88, hx91, hx104]); (have := costoNet_le aN.lg; have := costFetch_le aN.lg aTop aA aGuess; omega)) (by exact hq90))) ?_
                    clear hs; intro w hs
                    refine Qa ?_
                    refine WL.next ?_
                    refine WC.seq' ?_
                    refine WC.seq ?_
                    refine Qm ?_
                    refine WL.p Q0 (Yl.lss Q0 Q0) ?_
                    refine WL.next ?_
                    refine WC.condS Q0 (fun h14 => ?_) (fun h14 => ?_)
                    ·
                     replace h14 := of_decide_eq_true h14
                     refine WC.seq ?_
                     refine Qa ?_
                     refine WL.next ?_
                     refine WC.ret ?_
                     refine At.thenret ?_
                     refine fin1' rfl Q0 ?_
                     refine RetP.mk hs ?_
                     try simp only [hx55, hx56, hx87, hx88, hq89, hq90, hx91, hx104] at h1 h2 h3 h4 h5 h6 h7 h8 h9 h10 h11 h12 h13 h14
                     all_goals (first | (simp only [hx55, hx56, hx87, hx88, hq89, hq90, hx91, hx104]; done) | (exfalso; omega) | simp_all)
                    ·
                     replace h14 := of_decide_eq_false h14
                     refine WC.skipn ?_
                     refine WC.seq' ?_
                     refine WC.seq ?_
                     refine Qm ?_
                     refine Qm ?_
                     refine WL.p Q0 (Yl.nei Q0 Q0) ?_
                     refine WL.next ?_
                     refine WC.condS Q0 (fun h15 => ?_) (fun h15 => ?_)
                     ·
                      replace h15 := not_eq_true h15
                      replace h15 := of_decide_eq_false h15
                      refine WC.seq ?_
                      refine Qa ?_
                      refine WL.next ?_
                      refine WC.ret ?_
                      refine At.thenret ?_
                      refine fin1' rfl Q0 ?_
                      refine RetP.mk hs ?_
                      try simp only [hx55, hx56, hx87, hx88, hq89, hq90, hx91, hx104] at h1 h2 h3 h4 h5 h6 h7 h8 h9 h10 h11 h12 h13 h14 h15
                      all_goals (first | (simp only [hx55, hx56, hx87, hx88, hq89, hq90, hx91, hx104]; done) | (exfalso; omega) | simp_all)
                     ·
                      replace h15 := not_eq_false h15
                      replace h15 := of_decide_eq_true h15
                      refine WC.skipn ?_
                      refine WC.seq ?_
                      refine Qa ?_
                      refine WL.next ?_
                      refine WC.ret ?_
                      refine fin1' rfl Q0 ?_
                      refine RetP.mk hs ?_
                      rfl
               ·
                refine WI.alq 10 Q0 hs zt39 ?_
                clear hs; intro b105 w hs
                refine WA.two (i := 4) (j := 11) Q6 ?_ ?_
                ·
                 refine WI.callp2 (i := 4) hs (fun _ hs => hs.only Q2) Q0 Q0 (Yc.func Q0 fn15) (c_laws_toAddr _ _) ?_
                 clear hs; intro w hs
                 refine WA.two (i := 6) (j := 11) Q6 ?_ ?_
                 ·
                  refine WI.callq 6 Q0 hs (Yc.func Q0 fn16) (c_impl_FetchNow _ _ _ _ _ (hs.okow (x := x91) (F := F91) Q1) (Ph.old h_aTop hs) (Ph.old h_aA hs) trivial (by rw [hx91]; simp only [TNet.size, lsz] at *; omega) (by rw [hx91]; simp only [TNet.size, lsz] at *; omega) (by have e9 := congrArg (fun z => z.log.length) hx91; simp only [PNet.lg] at e9; simp only [TNet.size, lsz, PNet.lg] at *; omega) (by first | assumption | exact Sat.cellm hs (by assumption))) ?_
                  have hs0 := hs; clear hs; intro v w hb hR hs; clear hs
                  obtain ⟨x106, rfl, hx106, hf106⟩ := hR
                  obtain ⟨F106, hs⟩ := hf106.sat hs0 hb; clear hs0 hf106
                  refine WA.pq 7 Q0 hs (fun w hs => Yl.move Q0) ?_
                  refine WA.pq 8 Q0 hs (fun w hs => Yl.extract Q0 Q0) ?_
                  refine WA.pq 9 Q0 hs (fun w hs => Yl.extract Q0 Q0) ?_
                  refine WA.alq 11 Q0 hs zt41 ?_
                  clear hs; intro b107 w hs
                  refine WA.stq 12 Q0 hs szf39 ?_
                  clear hs; intro w hs
                  refine WA.stq 13 Q0 hs szf41 ?_
                  clear hs; intro w hs
                  refine WA.donen Q6 ?_
                  refine WC.seq' ?_
                  refine WC.seq ?_
                  refine WL.p Q0 (Yl.loadAB agg39 Q0 hs Q1 Q0 Q0) ?_
                  refine WL.p Q0 (Yl.loadAB agg39 Q0 hs Q1 Q0 Q0) ?_
                  refine WL.callp hs Q0 (Yc.func Q0 fn17) (c_laws_eqNet _ _ _ (hs.okow (x := x106) (F := F106) Q1) ⟨(hs.okow (x := x55) (F := F55) Q1).servers, ⟨(hs.okow (x := x55) (F := F55) Q1).cache.entries⟩, (hs.okow (x := x55) (F := F55) Q1).log, (hs.okow (x := x55) (F := F55) Q1).now⟩) ?_
                  clear hs; intro w hs
                  refine WL.p Q0 (Yl.not Q0) ?_
                  refine Qm ?_
                  refine WL.split (d := 111) Q0 (fun h12 => ?_) (fun h12 => ?_)
                  ·
                   replace h12 := not_eq_true h12
                   replace h12 := of_decide_eq_false h12
                   refine WL.skip (d := 111) Q0 Q0 Q0 Q0 ?_
                   refine WL.skip (d := 111) Q0 Q0 Q0 Q0 ?_
                   refine WL.skip (d := 111) Q0 Q0 Q0 Q0 ?_
                   refine WL.skip (d := 111) Q0 Q0 Q0 Q0 ?_
                   refine WL.p Q0 (Yl.pickT Q0 Q0) ?_
                   refine WL.next ?_
                   refine WC.condT Q0 ?_
                   refine WC.seq ?_
                   refine Qa ?_
                   refine WL.next ?_
                   refine WC.ret ?_
                   refine At.thenret ?_
                   refine fin1' rfl Q0 ?_
                   refine RetP.mk hs ?_
                   try simp only [hx55, hx56, hx87, hx88, hq89, hq90, hx91, hx106] at h1 h2 h3 h4 h5 h6 h7 h8 h9 h10 h11 h12
                   all_goals (first | (simp only [hx55, hx56, hx87, hx88, hq89, hq90, hx91, hx106]; done) | (exfalso; omega) | simp_all)
                  ·
                   replace h12 := not_eq_false h12
                   replace h12 := of_decide_eq_true h12
                   refine WL.run (d := 111) Q0 Q0 ?_
                   refine WL.p Q0 (Yl.loadAB agg41 Q0 hs Q1 Q0 Q0) ?_
                   refine WL.run (d := 111) Q0 Q0 ?_
                   refine WL.p Q0 (Yl.loadAB agg41 Q0 hs Q1 Q0 Q0) ?_
                   refine WL.run (d := 111) Q0 Q0 ?_
                   refine WL.callp hs Q0 (Yc.func Q0 fn18) (c_laws_eqResponse _ _ _) ?_
                   clear hs; intro w hs
                   refine WL.run (d := 111) Q0 Q0 ?_
                   refine WL.p Q0 (Yl.not Q0) ?_
                   refine WL.p Q0 (Yl.pickF Q0 Q0) ?_
                   refine WL.next ?_
                   refine WC.condS Q0 (fun h13 => ?_) (fun h13 => ?_)
                   ·
                    replace h13 := not_eq_true h13
                    replace h13 := of_decide_eq_false h13
                    refine WC.seq ?_
                    refine Qa ?_
                    refine WL.next ?_
                    refine WC.ret ?_
                    refine At.thenret ?_
                    refine fin1' rfl Q0 ?_
                    refine RetP.mk hs ?_
                    try simp only [hx55, hx56, hx87, hx88, hq89, hq90, hx91, hx106] at h1 h2 h3 h4 h5 h6 h7 h8 h9 h10 h11 h12 h13
                    all_goals (first | (simp only [hx55, hx56, hx87, hx88, hq89, hq90, hx91, hx106]; done) | (exfalso; omega) | simp_all)
                   ·
                    replace h13 := not_eq_false h13
                    replace h13 := of_decide_eq_true h13
                    refine WC.skipn ?_
                    refine WC.seq ?_
                    refine Qa ?_
                    refine WL.next ?_
                    refine WC.seq ?_
                    refine WL.p Q0 (Yl.loadAB agg39 Q0 hs Q1 Q0 Q0) ?_
                    refine Qm ?_
                    refine WL.callp hs Q0 (Yc.func Q0 fn20) (calls_conv (congrArg (fun z => ([z, _] : List Value).toArray) (show (.agg #[Sl.v a90.servers, Sl.v a90.cache.entries, Sl.v a90.log, I a90.now] : Value) = .agg #[Sl.v x87.servers, Sl.v x87.cache.entries, Sl.v x87.log, I x87.now] from congrArg (fun l => Value.agg l.toArray) he90)) (c_laws_heldNet a90 _ x87.lg _ (hs.okow (x := a90) (F := F90) Q1) (by first | assumption | omega) (by first | omega | (try simp only [hx55, hx56, hx87, hx88, hx91, hx106]); (have := costoNet_le aN.lg; have := costFetch_le aN.lg aTop aA aGuess; omega)) (by exact hq90))) ?_
                    clear hs; intro w hs
                    refine Qa ?_
                    refine WL.next ?_
                    refine WC.seq' ?_
                    refine WC.seq ?_
                    refine Qm ?_
                    refine WL.p Q0 (Yl.lss Q0 Q0) ?_
                    refine WL.next ?_
                    refine WC.condS Q0 (fun h14 => ?_) (fun h14 => ?_)
                    ·
                     replace h14 := of_decide_eq_true h14
                     refine WC.seq ?_
                     refine Qa ?_
                     refine WL.next ?_
                     refine WC.ret ?_
                     refine At.thenret ?_
                     refine fin1' rfl Q0 ?_
                     refine RetP.mk hs ?_
                     try simp only [hx55, hx56, hx87, hx88, hq89, hq90, hx91, hx106] at h1 h2 h3 h4 h5 h6 h7 h8 h9 h10 h11 h12 h13 h14
                     all_goals (first | (simp only [hx55, hx56, hx87, hx88, hq89, hq90, hx91, hx106]; done) | (exfalso; omega) | simp_all)
                    ·
                     replace h14 := of_decide_eq_false h14
                     refine WC.skipn ?_
                     refine WC.seq' ?_
                     refine WC.seq ?_
                     refine Qm ?_
                     refine Qm ?_
                     refine WL.p Q0 (Yl.nei Q0 Q0) ?_
                     refine WL.next ?_
                     refine WC.condS Q0 (fun h15 => ?_) (fun h15 => ?_)
                     ·
                      replace h15 := not_eq_true h15
                      replace h15 := of_decide_eq_false h15
                      refine WC.seq ?_
                      refine Qa ?_
                      refine WL.next ?_
                      refine WC.ret ?_
                      refine At.thenret ?_
                      refine fin1' rfl Q0 ?_
                      refine RetP.mk hs ?_
                      try simp only [hx55, hx56, hx87, hx88, hq89, hq90, hx91, hx106] at h1 h2 h3 h4 h5 h6 h7 h8 h9 h10 h11 h12 h13 h14 h15
                      all_goals (first | (simp only [hx55, hx56, hx87, hx88, hq89, hq90, hx91, hx106]; done) | (exfalso; omega) | simp_all)
                     ·
                      replace h15 := not_eq_false h15
                      replace h15 := of_decide_eq_true h15
                      refine WC.skipn ?_
                      refine WC.seq ?_
                      refine Qa ?_
                      refine WL.next ?_
                      refine WC.ret ?_
                      refine fin1' rfl Q0 ?_
                      refine RetP.mk hs ?_
                      rfl
                 ·
                  refine WI.alq 11 Q0 hs zt41 ?_
                  clear hs; intro b108 w hs
                  refine WA.callq 6 Q0 hs (Yc.func Q0 fn16) (c_impl_FetchNow _ _ _ _ _ (hs.okow (x := x91) (F := F91) Q1) (Ph.old h_aTop hs) (Ph.old h_aA hs) trivial (by rw [hx91]; simp only [TNet.size, lsz] at *; omega) (by rw [hx91]; simp only [TNet.size, lsz] at *; omega) (by have e9 := congrArg (fun z => z.log.length) hx91; simp only [PNet.lg] at e9; simp only [TNet.size, lsz, PNet.lg] at *; omega) (by first | assumption | exact Sat.cellm hs (by assumption))) ?_
                  have hs0 := hs; clear hs; intro v w hb hR hs; clear hs
                  obtain ⟨x109, rfl, hx109, hf109⟩ := hR
                  obtain ⟨F109, hs⟩ := hf109.sat hs0 hb; clear hs0 hf109
                  refine WA.pq 7 Q0 hs (fun w hs => Yl.move Q0) ?_
                  refine WA.pq 8 Q0 hs (fun w hs => Yl.extract Q0 Q0) ?_
                  refine WA.pq 9 Q0 hs (fun w hs => Yl.extract Q0 Q0) ?_
                  refine WA.stq 12 Q0 hs szf39 ?_
                  clear hs; intro w hs
                  refine WA.stq 13 Q0 hs szf41 ?_
                  clear hs; intro w hs
                  refine WA.donen Q6 ?_
                  refine WC.seq' ?_
                  refine WC.seq ?_
                  refine WL.p Q0 (Yl.loadAB agg39 Q0 hs Q1 Q0 Q0) ?_
                  refine WL.p Q0 (Yl.loadAB agg39 Q0 hs Q1 Q0 Q0) ?_
                  refine WL.callp hs Q0 (Yc.func Q0 fn17) (c_laws_eqNet _ _ _ (hs.okow (x := x109) (F := F109) Q1) ⟨(hs.okow (x := x55) (F := F55) Q1).servers, ⟨(hs.okow (x := x55) (F := F55) Q1).cache.entries⟩, (hs.okow (x := x55) (F := F55) Q1).log, (hs.okow (x := x55) (F := F55) Q1).now⟩) ?_
                  clear hs; intro w hs
                  refine WL.p Q0 (Yl.not Q0) ?_
                  refine Qm ?_
                  refine WL.split (d := 111) Q0 (fun h12 => ?_) (fun h12 => ?_)
                  ·
                   replace h12 := not_eq_true h12
                   replace h12 := of_decide_eq_false h12
                   refine WL.skip (d := 111) Q0 Q0 Q0 Q0 ?_
                   refine WL.skip (d := 111) Q0 Q0 Q0 Q0 ?_
                   refine WL.skip (d := 111) Q0 Q0 Q0 Q0 ?_
                   refine WL.skip (d := 111) Q0 Q0 Q0 Q0 ?_
                   refine WL.p Q0 (Yl.pickT Q0 Q0) ?_
                   refine WL.next ?_
                   refine WC.condT Q0 ?_
                   refine WC.seq ?_
                   refine Qa ?_
                   refine WL.next ?_
                   refine WC.ret ?_
                   refine At.thenret ?_
                   refine fin1' rfl Q0 ?_
                   refine RetP.mk hs ?_
                   try simp only [hx55, hx56, hx87, hx88, hq89, hq90, hx91, hx109] at h1 h2 h3 h4 h5 h6 h7 h8 h9 h10 h11 h12
                   all_goals (first | (simp only [hx55, hx56, hx87, hx88, hq89, hq90, hx91, hx109]; done) | (exfalso; omega) | simp_all)
                  ·
                   replace h12 := not_eq_false h12
                   replace h12 := of_decide_eq_true h12
                   refine WL.run (d := 111) Q0 Q0 ?_
                   refine WL.p Q0 (Yl.loadAB agg41 Q0 hs Q1 Q0 Q0) ?_
                   refine WL.run (d := 111) Q0 Q0 ?_
                   refine WL.p Q0 (Yl.loadAB agg41 Q0 hs Q1 Q0 Q0) ?_
                   refine WL.run (d := 111) Q0 Q0 ?_
                   refine WL.callp hs Q0 (Yc.func Q0 fn18) (c_laws_eqResponse _ _ _) ?_
                   clear hs; intro w hs
                   refine WL.run (d := 111) Q0 Q0 ?_
                   refine WL.p Q0 (Yl.not Q0) ?_
                   refine WL.p Q0 (Yl.pickF Q0 Q0) ?_
                   refine WL.next ?_
                   refine WC.condS Q0 (fun h13 => ?_) (fun h13 => ?_)
                   ·
                    replace h13 := not_eq_true h13
                    replace h13 := of_decide_eq_false h13
                    refine WC.seq ?_
                    refine Qa ?_
                    refine WL.next ?_
                    refine WC.ret ?_
                    refine At.thenret ?_
                    refine fin1' rfl Q0 ?_
                    refine RetP.mk hs ?_
                    try simp only [hx55, hx56, hx87, hx88, hq89, hq90, hx91, hx109] at h1 h2 h3 h4 h5 h6 h7 h8 h9 h10 h11 h12 h13
                    all_goals (first | (simp only [hx55, hx56, hx87, hx88, hq89, hq90, hx91, hx109]; done) | (exfalso; omega) | simp_all)
                   ·
                    replace h13 := not_eq_false h13
                    replace h13 := of_decide_eq_true h13
                    refine WC.skipn ?_
                    refine WC.seq ?_
                    refine Qa ?_
                    refine WL.next ?_
                    refine WC.seq ?_
                    refine WL.p Q0 (Yl.loadAB agg39 Q0 hs Q1 Q0 Q0) ?_
                    refine Qm ?_
                    refine WL.callp hs Q0 (Yc.func Q0 fn20) (calls_conv (congrArg (fun z => ([z, _] : List Value).toArray) (show (.agg #[Sl.v a90.servers, Sl.v a90.cache.entries, Sl.v a90.log, I a90.now] : Value) = .agg #[Sl.v x87.servers, Sl.v x87.cache.entries, Sl.v x87.log, I x87.now] from congrArg (fun l => Value.agg l.toArray) he90)) (c_laws_heldNet a90 _ x87.lg _ (hs.okow (x := a90) (F := F90) Q1) (by first | assumption | omega) (by first | omega | (try simp only [hx55, hx56, hx87, hx88, hx91, hx109]); (have := costoNet_le aN.lg; have := costFetch_le aN.lg aTop aA aGuess; omega)) (by exact hq90))) ?_
                    clear hs; intro w hs
                    refine Qa ?_
                    refine WL.next ?_
                    refine WC.seq' ?_
                    refine WC.seq ?_
                    refine Qm ?_
                    refine WL.p Q0 (Yl.lss Q0 Q0) ?_
                    refine WL.next ?_
                    refine WC.condS Q0 (fun h14 => ?_) (fun h14 => ?_)
                    ·
                     replace h14 := of_decide_eq_true h14
                     refine WC.seq ?_
                     refine Qa ?_
                     refine WL.next ?_
                     refine WC.ret ?_
                     refine At.thenret ?_
                     refine fin1' rfl Q0 ?_
                     refine RetP.mk hs ?_
                     try simp only [hx55, hx56, hx87, hx88, hq89, hq90, hx91, hx109] at h1 h2 h3 h4 h5 h6 h7 h8 h9 h10 h11 h12 h13 h14
                     all_goals (first | (simp only [hx55, hx56, hx87, hx88, hq89, hq90, hx91, hx109]; done) | (exfalso; omega) | simp_all)
                    ·
                     replace h14 := of_decide_eq_false h14
                     refine WC.skipn ?_
                     refine WC.seq' ?_
                     refine WC.seq ?_
                     refine Qm ?_
                     refine Qm ?_
                     refine WL.p Q0 (Yl.nei Q0 Q0) ?_
                     refine WL.next ?_
                     refine WC.condS Q0 (fun h15 => ?_) (fun h15 => ?_)
                     ·
                      replace h15 := not_eq_true h15
                      replace h15 := of_decide_eq_false h15
                      refine WC.seq ?_
                      refine Qa ?_
                      refine WL.next ?_
                      refine WC.ret ?_
                      refine At.thenret ?_
                      refine fin1' rfl Q0 ?_
                      refine RetP.mk hs ?_
                      try simp only [hx55, hx56, hx87, hx88, hq89, hq90, hx91, hx109] at h1 h2 h3 h4 h5 h6 h7 h8 h9 h10 h11 h12 h13 h14 h15
                      all_goals (first | (simp only [hx55, hx56, hx87, hx88, hq89, hq90, hx91, hx109]; done) | (exfalso; omega) | simp_all)
                     ·
                      replace h15 := not_eq_false h15
                      replace h15 := of_decide_eq_true h15
                      refine WC.skipn ?_
                      refine WC.seq ?_
                      refine Qa ?_
                      refine WL.next ?_
                      refine WC.ret ?_
                      refine fin1' rfl Q0 ?_
                      refine RetP.mk hs ?_
                      rfl
                ·
                 refine WI.alq 11 Q0 hs zt41 ?_
                 clear hs; intro b110 w hs
                 refine WA.callp2 (i := 4) hs (fun _ hs => hs.only Q2) Q6 Q0 Q0 (Yc.func Q0 fn15) (c_laws_toAddr _ _) ?_
                 clear hs; intro w hs
                 refine WA.callq 6 Q0 hs (Yc.func Q0 fn16) (c_impl_FetchNow _ _ _ _ _ (hs.okow (x := x91) (F := F91) Q1) (Ph.old h_aTop hs) (Ph.old h_aA hs) trivial (by rw [hx91]; simp only [TNet.size, lsz] at *; omega) (by rw [hx91]; simp only [TNet.size, lsz] at *; omega) (by have e9 := congrArg (fun z => z.log.length) hx91; simp only [PNet.lg] at e9; simp only [TNet.size, lsz, PNet.lg] at *; omega) (by first | assumption | exact Sat.cellm hs (by assumption))) ?_
                 have hs0 := hs; clear hs; intro v w hb hR hs; clear hs
                 obtain ⟨x111, rfl, hx111, hf111⟩ := hR
                 obtain ⟨F111, hs⟩ := hf111.sat hs0 hb; clear hs0 hf111
                 refine WA.pq 7 Q0 hs (fun w hs => Yl.move Q0) ?_
                 refine WA.pq 8 Q0 hs (fun w hs => Yl.extract Q0 Q0) ?_
                 refine WA.pq 9 Q0 hs (fun w hs => Yl.extract Q0 Q0) ?_
                 refine WA.stq 12 Q0 hs szf39 ?_
                 clear hs; intro w hs
                 refine WA.stq 13 Q0 hs szf41 ?_
                 clear hs; intro w hs
                 refine WA.donen Q6 ?_
                 refine WC.seq' ?_
                 refine WC.seq ?_
                 refine WL.p Q0 (Yl.loadAB agg39 Q0 hs Q1 Q0 Q0) ?_
                 refine WL.p Q0 (Yl.loadAB agg39 Q0 hs Q1 Q0 Q0) ?_
                 refine WL.callp hs Q0 (Yc.func Q0 fn17) (c_laws_eqNet _ _ _ (hs.okow (x := x111) (F := F111) Q1) ⟨(hs.okow (x := x55) (F := F55) Q1).servers, ⟨(hs.okow (x := x55) (F := F55) Q1).cache.entries⟩, (hs.okow (x := x55) (F := F55) Q1).log, (hs.okow (x := x55) (F := F55) Q1).now⟩) ?_
                 clear hs; intro w hs
                 refine WL.p Q0 (Yl.not Q0) ?_
                 refine Qm ?_
                 refine WL.split (d := 111) Q0 (fun h12 => ?_) (fun h12 => ?_)
                 ·
                  replace h12 := not_eq_true h12
                  replace h12 := of_decide_eq_false h12
                  refine WL.skip (d := 111) Q0 Q0 Q0 Q0 ?_
                  refine WL.skip (d := 111) Q0 Q0 Q0 Q0 ?_
                  refine WL.skip (d := 111) Q0 Q0 Q0 Q0 ?_
                  refine WL.skip (d := 111) Q0 Q0 Q0 Q0 ?_
                  refine WL.p Q0 (Yl.pickT Q0 Q0) ?_
                  refine WL.next ?_
                  refine WC.condT Q0 ?_
                  refine WC.seq ?_
                  refine Qa ?_
                  refine WL.next ?_
                  refine WC.ret ?_
                  refine At.thenret ?_
                  refine fin1' rfl Q0 ?_
                  refine RetP.mk hs ?_
                  try simp only [hx55, hx56, hx87, hx88, hq89, hq90, hx91, hx111] at h1 h2 h3 h4 h5 h6 h7 h8 h9 h10 h11 h12
                  all_goals (first | (simp only [hx55, hx56, hx87, hx88, hq89, hq90, hx91, hx111]; done) | (exfalso; omega) | simp_all)
                 ·
                  replace h12 := not_eq_false h12
                  replace h12 := of_decide_eq_true h12
                  refine WL.run (d := 111) Q0 Q0 ?_
                  refine WL.p Q0 (Yl.loadAB agg41 Q0 hs Q1 Q0 Q0) ?_
                  refine WL.run (d := 111) Q0 Q0 ?_
                  refine WL.p Q0 (Yl.loadAB agg41 Q0 hs Q1 Q0 Q0) ?_
                  refine WL.run (d := 111) Q0 Q0 ?_
                  refine WL.callp hs Q0 (Yc.func Q0 fn18) (c_laws_eqResponse _ _ _) ?_
                  clear hs; intro w hs
                  refine WL.run (d := 111) Q0 Q0 ?_
                  refine WL.p Q0 (Yl.not Q0) ?_
                  refine WL.p Q0 (Yl.pickF Q0 Q0) ?_
                  refine WL.next ?_
                  refine WC.condS Q0 (fun h13 => ?_) (fun h13 => ?_)
                  ·
                   replace h13 := not_eq_true h13
                   replace h13 := of_decide_eq_false h13
                   refine WC.seq ?_
                   refine Qa ?_
                   refine WL.next ?_
                   refine WC.ret ?_
                   refine At.thenret ?_
                   refine fin1' rfl Q0 ?_
                   refine RetP.mk hs ?_
                   try simp only [hx55, hx56, hx87, hx88, hq89, hq90, hx91, hx111] at h1 h2 h3 h4 h5 h6 h7 h8 h9 h10 h11 h12 h13
                   all_goals (first | (simp only [hx55, hx56, hx87, hx88, hq89, hq90, hx91, hx111]; done) | (exfalso; omega) | simp_all)
                  ·
                   replace h13 := not_eq_false h13
                   replace h13 := of_decide_eq_true h13
                   refine WC.skipn ?_
                   refine WC.seq ?_
                   refine Qa ?_
                   refine WL.next ?_
                   refine WC.seq ?_
                   refine WL.p Q0 (Yl.loadAB agg39 Q0 hs Q1 Q0 Q0) ?_
                   refine Qm ?_
                   refine WL.callp hs Q0 (Yc.func Q0 fn20) (calls_conv (congrArg (fun z => ([z, _] : List Value).toArray) (show (.agg #[Sl.v a90.servers, Sl.v a90.cache.entries, Sl.v a90.log, I a90.now] : Value) = .agg #[Sl.v x87.servers, Sl.v x87.cache.entries, Sl.v x87.log, I x87.now] from congrArg (fun l => Value.agg l.toArray) he90)) (c_laws_heldNet a90 _ x87.lg _ (hs.okow (x := a90) (F := F90) Q1) (by first | assumption | omega) (by first | omega | (try simp only [hx55, hx56, hx87, hx88, hx91, hx111]); (have := costoNet_le aN.lg; have := costFetch_le aN.lg aTop aA aGuess; omega)) (by exact hq90))) ?_
                   clear hs; intro w hs
                   refine Qa ?_
                   refine WL.next ?_
                   refine WC.seq' ?_
                   refine WC.seq ?_
                   refine Qm ?_
                   refine WL.p Q0 (Yl.lss Q0 Q0) ?_
                   refine WL.next ?_
                   refine WC.condS Q0 (fun h14 => ?_) (fun h14 => ?_)
                   ·
                    replace h14 := of_decide_eq_true h14
                    refine WC.seq ?_
                    refine Qa ?_
                    refine WL.next ?_
                    refine WC.ret ?_
                    refine At.thenret ?_
                    refine fin1' rfl Q0 ?_
                    refine RetP.mk hs ?_
                    try simp only [hx55, hx56, hx87, hx88, hq89, hq90, hx91, hx111] at h1 h2 h3 h4 h5 h6 h7 h8 h9 h10 h11 h12 h13 h14
                    all_goals (first | (simp only [hx55, hx56, hx87, hx88, hq89, hq90, hx91, hx111]; done) | (exfalso; omega) | simp_all)
                   ·
                    replace h14 := of_decide_eq_false h14
                    refine WC.skipn ?_
                    refine WC.seq' ?_
                    refine WC.seq ?_
                    refine Qm ?_
                    refine Qm ?_
                    refine WL.p Q0 (Yl.nei Q0 Q0) ?_
                    refine WL.next ?_
                    refine WC.condS Q0 (fun h15 => ?_) (fun h15 => ?_)
                    ·
                     replace h15 := not_eq_true h15
                     replace h15 := of_decide_eq_false h15
                     refine WC.seq ?_
                     refine Qa ?_
                     refine WL.next ?_
                     refine WC.ret ?_
                     refine At.thenret ?_
                     refine fin1' rfl Q0 ?_
                     refine RetP.mk hs ?_
                     try simp only [hx55, hx56, hx87, hx88, hq89, hq90, hx91, hx111] at h1 h2 h3 h4 h5 h6 h7 h8 h9 h10 h11 h12 h13 h14 h15
                     all_goals (first | (simp only [hx55, hx56, hx87, hx88, hq89, hq90, hx91, hx111]; done) | (exfalso; omega) | simp_all)
                    ·
                     replace h15 := not_eq_false h15
                     replace h15 := of_decide_eq_true h15
                     refine WC.skipn ?_
                     refine WC.seq ?_
                     refine Qa ?_
                     refine WL.next ?_
                     refine WC.ret ?_
                     refine fin1' rfl Q0 ?_
                     refine RetP.mk hs ?_
                     rfl
               ·
                refine WI.alq 11 Q0 hs zt41 ?_
                clear hs; intro b112 w hs
                refine WA.two (i := 4) (j := 10) Q6 ?_ ?_
                ·
                 refine WI.callp2 (i := 4) hs (fun _ hs => hs.only Q2) Q0 Q0 (Yc.func Q0 fn15) (c_laws_toAddr _ _) ?_
                 clear hs; intro w hs
                 refine WA.two (i := 6) (j := 10) Q6 ?_ ?_
                 ·
                  refine WI.callq 6 Q0 hs (Yc.func Q0 fn16) (c_impl_FetchNow _ _ _ _ _ (hs.okow (x := x91) (F := F91) Q1) (Ph.old h_aTop hs) (Ph.old h_aA hs) trivial (by rw [hx91]; simp only [TNet.size, lsz] at *; omega) (by rw [hx91]; simp only [TNet.size, lsz] at *; omega) (by have e9 := congrArg (fun z => z.log.length) hx91; simp only [PNet.lg] at e9; simp only [TNet.size, lsz, PNet.lg] at *; omega) (by first | assumption | exact Sat.cellm hs (by assumption))) ?_
                  have hs0 := hs; clear hs; intro v w hb hR hs; clear hs
                  obtain ⟨x113, rfl, hx113, hf113⟩ := hR
                  obtain ⟨F113, hs⟩ := hf113.sat hs0 hb; clear hs0 hf113
                  refine WA.pq 7 Q0 hs (fun w hs => Yl.move Q0) ?_
                  refine WA.pq 8 Q0 hs (fun w hs => Yl.extract Q0 Q0) ?_
                  refine WA.pq 9 Q0 hs (fun w hs => Yl.extract Q0 Q0) ?_
                  refine WA.alq 10 Q0 hs zt39 ?_
                  clear hs; intro b114 w hs
                  refine WA.stq 12 Q0 hs szf39 ?_
                  clear hs; intro w hs
                  refine WA.stq 13 Q0 hs szf41 ?_
                  clear hs; intro w hs
                  refine WA.donen Q6 ?_
                  refine WC.seq' ?_
                  refine WC.seq ?_
                  refine WL.p Q0 (Yl.loadAB agg39 Q0 hs Q1 Q0 Q0) ?_
                  refine WL.p Q0 (Yl.loadAB agg39 Q0 hs Q1 Q0 Q0) ?_
                  refine WL.callp hs Q0 (Yc.func Q0 fn17) (c_laws_eqNet _ _ _ (hs.okow (x := x113) (F := F113) Q1) ⟨(hs.okow (x := x55) (F := F55) Q1).servers, ⟨(hs.okow (x := x55) (F := F55) Q1).cache.entries⟩, (hs.okow (x := x55) (F := F55) Q1).log, (hs.okow (x := x55) (F := F55) Q1).now⟩) ?_
                  clear hs; intro w hs
                  refine WL.p Q0 (Yl.not Q0) ?_
                  refine Qm ?_
                  refine WL.split (d := 111) Q0 (fun h12 => ?_) (fun h12 => ?_)
                  ·
                   replace h12 := not_eq_true h12
                   replace h12 := of_decide_eq_false h12
                   refine WL.skip (d := 111) Q0 Q0 Q0 Q0 ?_
                   refine WL.skip (d := 111) Q0 Q0 Q0 Q0 ?_
                   refine WL.skip (d := 111) Q0 Q0 Q0 Q0 ?_
                   refine WL.skip (d := 111) Q0 Q0 Q0 Q0 ?_
                   refine WL.p Q0 (Yl.pickT Q0 Q0) ?_
                   refine WL.next ?_
                   refine WC.condT Q0 ?_
                   refine WC.seq ?_
                   refine Qa ?_
                   refine WL.next ?_
                   refine WC.ret ?_
                   refine At.thenret ?_
                   refine fin1' rfl Q0 ?_
                   refine RetP.mk hs ?_
                   try simp only [hx55, hx56, hx87, hx88, hq89, hq90, hx91, hx113] at h1 h2 h3 h4 h5 h6 h7 h8 h9 h10 h11 h12
                   all_goals (first | (simp only [hx55, hx56, hx87, hx88, hq89, hq90, hx91, hx113]; done) | (exfalso; omega) | simp_all)
                  ·
                   replace h12 := not_eq_false h12
                   replace h12 := of_decide_eq_true h12
                   refine WL.run (d := 111) Q0 Q0 ?_
                   refine WL.p Q0 (Yl.loadAB agg41 Q0 hs Q1 Q0 Q0) ?_
                   refine WL.run (d := 111) Q0 Q0 ?_
                   refine WL.p Q0 (Yl.loadAB agg41 Q0 hs Q1 Q0 Q0) ?_
                   refine WL.run (d := 111) Q0 Q0 ?_
                   refine WL.callp hs Q0 (Yc.func Q0 fn18) (c_laws_eqResponse _ _ _) ?_
                   clear hs; intro w hs
                   refine WL.run (d := 111) Q0 Q0 ?_
                   refine WL.p Q0 (Yl.not Q0) ?_
                   refine WL.p Q0 (Yl.pickF Q0 Q0) ?_
                   refine WL.next ?_
                   refine WC.condS Q0 (fun h13 => ?_) (fun h13 => ?_)
                   ·
                    replace h13 := not_eq_true h13
                    replace h13 := of_decide_eq_false h13
                    refine WC.seq ?_
                    refine Qa ?_
                    refine WL.next ?_
                    refine WC.ret ?_
                    refine At.thenret ?_
                    refine fin1' rfl Q0 ?_
                    refine RetP.mk hs ?_
                    try simp only [hx55, hx56, hx87, hx88, hq89, hq90, hx91, hx113] at h1 h2 h3 h4 h5 h6 h7 h8 h9 h10 h11 h12 h13
                    all_goals (first | (simp only [hx55, hx56, hx87, hx88, hq89, hq90, hx91, hx113]; done) | (exfalso; omega) | simp_all)
                   ·
                    replace h13 := not_eq_false h13
                    replace h13 := of_decide_eq_true h13
                    refine WC.skipn ?_
                    refine WC.seq ?_
                    refine Qa ?_
                    refine WL.next ?_
                    refine WC.seq ?_
                    refine WL.p Q0 (Yl.loadAB agg39 Q0 hs Q1 Q0 Q0) ?_
                    refine Qm ?_
                    refine WL.callp hs Q0 (Yc.func Q0 fn20) (calls_conv (congrArg (fun z => ([z, _] : List Value).toArray) (show (.agg #[Sl.v a90.servers, Sl.v a90.cache.entries, Sl.v a90.log, I a90.now] : Value) = .agg #[Sl.v x87.servers, Sl.v x87.cache.entries, Sl.v x87.log, I x87.now] from congrArg (fun l => Value.agg l.toArray) he90)) (c_laws_heldNet a90 _ x87.lg _ (hs.okow (x := a90) (F := F90) Q1) (by first | assumption | omega) (by first | omega | (try simp only [hx55, hx56, hx87, hx88, hx91, hx113]); (have := costoNet_le aN.lg; have := costFetch_le aN.lg aTop aA aGuess; omega)) (by exact hq90))) ?_
                    clear hs; intro w hs
                    refine Qa ?_
                    refine WL.next ?_
                    refine WC.seq' ?_
                    refine WC.seq ?_
                    refine Qm ?_
                    refine WL.p Q0 (Yl.lss Q0 Q0) ?_
                    refine WL.next ?_
                    refine WC.condS Q0 (fun h14 => ?_) (fun h14 => ?_)
                    ·
                     replace h14 := of_decide_eq_true h14
                     refine WC.seq ?_
                     refine Qa ?_
                     refine WL.next ?_
                     refine WC.ret ?_
                     refine At.thenret ?_
                     refine fin1' rfl Q0 ?_
                     refine RetP.mk hs ?_
                     try simp only [hx55, hx56, hx87, hx88, hq89, hq90, hx91, hx113] at h1 h2 h3 h4 h5 h6 h7 h8 h9 h10 h11 h12 h13 h14
                     all_goals (first | (simp only [hx55, hx56, hx87, hx88, hq89, hq90, hx91, hx113]; done) | (exfalso; omega) | simp_all)
                    ·
                     replace h14 := of_decide_eq_false h14
                     refine WC.skipn ?_
                     refine WC.seq' ?_
                     refine WC.seq ?_
                     refine Qm ?_
                     refine Qm ?_
                     refine WL.p Q0 (Yl.nei Q0 Q0) ?_
                     refine WL.next ?_
                     refine WC.condS Q0 (fun h15 => ?_) (fun h15 => ?_)
                     ·
                      replace h15 := not_eq_true h15
                      replace h15 := of_decide_eq_false h15
                      refine WC.seq ?_
                      refine Qa ?_
                      refine WL.next ?_
                      refine WC.ret ?_
                      refine At.thenret ?_
                      refine fin1' rfl Q0 ?_
                      refine RetP.mk hs ?_
                      try simp only [hx55, hx56, hx87, hx88, hq89, hq90, hx91, hx113] at h1 h2 h3 h4 h5 h6 h7 h8 h9 h10 h11 h12 h13 h14 h15
                      all_goals (first | (simp only [hx55, hx56, hx87, hx88, hq89, hq90, hx91, hx113]; done) | (exfalso; omega) | simp_all)
                     ·
                      replace h15 := not_eq_false h15
                      replace h15 := of_decide_eq_true h15
                      refine WC.skipn ?_
                      refine WC.seq ?_
                      refine Qa ?_
                      refine WL.next ?_
                      refine WC.ret ?_
                      refine fin1' rfl Q0 ?_
                      refine RetP.mk hs ?_
                      rfl
                 ·
                  refine WI.alq 10 Q0 hs zt39 ?_
                  clear hs; intro b115 w hs
                  refine WA.callq 6 Q0 hs (Yc.func Q0 fn16) (c_impl_FetchNow _ _ _ _ _ (hs.okow (x := x91) (F := F91) Q1) (Ph.old h_aTop hs) (Ph.old h_aA hs) trivial (by rw [hx91]; simp only [TNet.size, lsz] at *; omega) (by rw [hx91]; simp only [TNet.size, lsz] at *; omega) (by have e9 := congrArg (fun z => z.log.length) hx91; simp only [PNet.lg] at e9; simp only [TNet.size, lsz, PNet.lg] at *; omega) (by first | assumption | exact Sat.cellm hs (by assumption))) ?_
                  have hs0 := hs; clear hs; intro v w hb hR hs; clear hs
                  obtain ⟨x116, rfl, hx116, hf116⟩ := hR
                  obtain ⟨F116, hs⟩ := hf116.sat hs0 hb; clear hs0 hf116
                  refine WA.pq 7 Q0 hs (fun w hs => Yl.move Q0) ?_
                  refine WA.pq 8 Q0 hs (fun w hs => Yl.extract Q0 Q0) ?_
                  refine WA.pq 9 Q0 hs (fun w hs => Yl.extract Q0 Q0) ?_
                  refine WA.stq 12 Q0 hs szf39 ?_
                  clear hs; intro w hs
                  refine WA.stq 13 Q0 hs szf41 ?_
                  clear hs; intro w hs
                  refine WA.donen Q6 ?_
                  refine WC.seq' ?_
                  refine WC.seq ?_
                  refine WL.p Q0 (Yl.loadAB agg39 Q0 hs Q1 Q0 Q0) ?_
                  refine WL.p Q0 (Yl.loadAB agg39 Q0 hs Q1 Q0 Q0) ?_
                  refine WL.callp hs Q0 (Yc.func Q0 fn17) (c_laws_eqNet _ _ _ (hs.okow (x := x116) (F := F116) Q1) ⟨(hs.okow (x := x55) (F := F55) Q1).servers, ⟨(hs.okow (x := x55) (F := F55) Q1).cache.entries⟩, (hs.okow (x := x55) (F := F55) Q1).log, (hs.okow (x := x55) (F := F55) Q1).now⟩) ?_
                  clear hs; intro w hs
                  refine WL.p Q0 (Yl.not Q0) ?_
                  refine Qm ?_
                  refine WL.split (d := 111) Q0 (fun h12 => ?_) (fun h12 => ?_)
                  ·
                   replace h12 := not_eq_true h12
                   replace h12 := of_decide_eq_false h12
                   refine WL.skip (d := 111) Q0 Q0 Q0 Q0 ?_
                   refine WL.skip (d := 111) Q0 Q0 Q0 Q0 ?_
                   refine WL.skip (d := 111) Q0 Q0 Q0 Q0 ?_
                   refine WL.skip (d := 111) Q0 Q0 Q0 Q0 ?_
                   refine WL.p Q0 (Yl.pickT Q0 Q0) ?_
                   refine WL.next ?_
                   refine WC.condT Q0 ?_
                   refine WC.seq ?_
                   refine Qa ?_
                   refine WL.next ?_
                   refine WC.ret ?_
                   refine At.thenret ?_
                   refine fin1' rfl Q0 ?_
                   refine RetP.mk hs ?_
                   try simp only [hx55, hx56, hx87, hx88, hq89, hq90, hx91, hx116] at h1 h2 h3 h4 h5 h6 h7 h8 h9 h10 h11 h12
                   all_goals (first | (simp only [hx55, hx56, hx87, hx88, hq89, hq90, hx91, hx116]; done) | (exfalso; omega) | simp_all)
                  ·
                   replace h12 := not_eq_false h12
                   replace h12 := of_decide_eq_true h12
                   refine WL.run (d := 111) Q0 Q0 ?_
                   refine WL.p Q0 (Yl.loadAB agg41 Q0 hs Q1 Q0 Q0) ?_
                   refine WL.run (d := 111) Q0 Q0 ?_
                   refine WL.p Q0 (Yl.loadAB agg41 Q0 hs Q1 Q0 Q0) ?_
                   refine WL.run (d := 111) Q0 Q0 ?_
                   refine WL.callp hs Q0 (Yc.func Q0 fn18) (c_laws_eqResponse _ _ _) ?_
                   clear hs; intro w hs
                   refine WL.run (d := 111) Q0 Q0 ?_
                   refine WL.p Q0 (Yl.not Q0) ?_
                   refine WL.p Q0 (Yl.pickF Q0 Q0) ?_
                   refine WL.next ?_
                   refine WC.condS Q0 (fun h13 => ?_) (fun h13 => ?_)
                   ·
                    replace h13 := not_eq_true h13
                    replace h13 := of_decide_eq_false h13
                    refine WC.seq ?_
                    refine Qa ?_
                    refine WL.next ?_
                    refine WC.ret ?_
                    refine At.thenret ?_
                    refine fin1' rfl Q0 ?_
                    refine RetP.mk hs ?_
                    try simp only [hx55, hx56, hx87, hx88, hq89, hq90, hx91, hx116] at h1 h2 h3 h4 h5 h6 h7 h8 h9 h10 h11 h12 h13
                    all_goals (first | (simp only [hx55, hx56, hx87, hx88, hq89, hq90, hx91, hx116]; done) | (exfalso; omega) | simp_all)
                   ·
                    replace h13 := not_eq_false h13
                    replace h13 := of_decide_eq_true h13
                    refine WC.skipn ?_
                    refine WC.seq ?_
                    refine Qa ?_
                    refine WL.next ?_
                    refine WC.seq ?_
                    refine WL.p Q0 (Yl.loadAB agg39 Q0 hs Q1 Q0 Q0) ?_
                    refine Qm ?_
                    refine WL.callp hs Q0 (Yc.func Q0 fn20) (calls_conv (congrArg (fun z => ([z, _] : List Value).toArray) (show (.agg #[Sl.v a90.servers, Sl.v a90.cache.entries, Sl.v a90.log, I a90.now] : Value) = .agg #[Sl.v x87.servers, Sl.v x87.cache.entries, Sl.v x87.log, I x87.now] from congrArg (fun l => Value.agg l.toArray) he90)) (c_laws_heldNet a90 _ x87.lg _ (hs.okow (x := a90) (F := F90) Q1) (by first | assumption | omega) (by first | omega | (try simp only [hx55, hx56, hx87, hx88, hx91, hx116]); (have := costoNet_le aN.lg; have := costFetch_le aN.lg aTop aA aGuess; omega)) (by exact hq90))) ?_
                    clear hs; intro w hs
                    refine Qa ?_
                    refine WL.next ?_
                    refine WC.seq' ?_
                    refine WC.seq ?_
                    refine Qm ?_
                    refine WL.p Q0 (Yl.lss Q0 Q0) ?_
                    refine WL.next ?_
                    refine WC.condS Q0 (fun h14 => ?_) (fun h14 => ?_)
                    ·
                     replace h14 := of_decide_eq_true h14
                     refine WC.seq ?_
                     refine Qa ?_
                     refine WL.next ?_
                     refine WC.ret ?_
                     refine At.thenret ?_
                     refine fin1' rfl Q0 ?_
                     refine RetP.mk hs ?_
                     try simp only [hx55, hx56, hx87, hx88, hq89, hq90, hx91, hx116] at h1 h2 h3 h4 h5 h6 h7 h8 h9 h10 h11 h12 h13 h14
                     all_goals (first | (simp only [hx55, hx56, hx87, hx88, hq89, hq90, hx91, hx116]; done) | (exfalso; omega) | simp_all)
                    ·
                     replace h14 := of_decide_eq_false h14
                     refine WC.skipn ?_
                     refine WC.seq' ?_
                     refine WC.seq ?_
                     refine Qm ?_
                     refine Qm ?_
                     refine WL.p Q0 (Yl.nei Q0 Q0) ?_
                     refine WL.next ?_
                     refine WC.condS Q0 (fun h15 => ?_) (fun h15 => ?_)
                     ·
                      replace h15 := not_eq_true h15
                      replace h15 := of_decide_eq_false h15
                      refine WC.seq ?_
                      refine Qa ?_
                      refine WL.next ?_
                      refine WC.ret ?_
                      refine At.thenret ?_
                      refine fin1' rfl Q0 ?_
                      refine RetP.mk hs ?_
                      try simp only [hx55, hx56, hx87, hx88, hq89, hq90, hx91, hx116] at h1 h2 h3 h4 h5 h6 h7 h8 h9 h10 h11 h12 h13 h14 h15
                      all_goals (first | (simp only [hx55, hx56, hx87, hx88, hq89, hq90, hx91, hx116]; done) | (exfalso; omega) | simp_all)
                     ·
                      replace h15 := not_eq_false h15
                      replace h15 := of_decide_eq_true h15
                      refine WC.skipn ?_
                      refine WC.seq ?_
                      refine Qa ?_
                      refine WL.next ?_
                      refine WC.ret ?_
                      refine fin1' rfl Q0 ?_
                      refine RetP.mk hs ?_
                      rfl
                ·
                 refine WI.alq 10 Q0 hs zt39 ?_
                 clear hs; intro b117 w hs
                 refine WA.callp2 (i := 4) hs (fun _ hs => hs.only Q2) Q6 Q0 Q0 (Yc.func Q0 fn15) (c_laws_toAddr _ _) ?_
                 clear hs; intro w hs
                 refine WA.callq 6 Q0 hs (Yc.func Q0 fn16) (c_impl_FetchNow _ _ _ _ _ (hs.okow (x := x91) (F := F91) Q1) (Ph.old h_aTop hs) (Ph.old h_aA hs) trivial (by rw [hx91]; simp only [TNet.size, lsz] at *; omega) (by rw [hx91]; simp only [TNet.size, lsz] at *; omega) (by have e9 := congrArg (fun z => z.log.length) hx91; simp only [PNet.lg] at e9; simp only [TNet.size, lsz, PNet.lg] at *; omega) (by first | assumption | exact Sat.cellm hs (by assumption))) ?_
                 have hs0 := hs; clear hs; intro v w hb hR hs; clear hs
                 obtain ⟨x118, rfl, hx118, hf118⟩ := hR
                 obtain ⟨F118, hs⟩ := hf118.sat hs0 hb; clear hs0 hf118
                 refine WA.pq 7 Q0 hs (fun w hs => Yl.move Q0) ?_
                 refine WA.pq 8 Q0 hs (fun w hs => Yl.extract Q0 Q0) ?_
                 refine WA.pq 9 Q0 hs (fun w hs => Yl.extract Q0 Q0) ?_
                 refine WA.stq 12 Q0 hs szf39 ?_
                 clear hs; intro w hs
                 refine WA.stq 13 Q0 hs szf41 ?_
                 clear hs; intro w hs
                 refine WA.donen Q6 ?_
                 refine WC.seq' ?_
                 refine WC.seq ?_
                 refine WL.p Q0 (Yl.loadAB agg39 Q0 hs Q1 Q0 Q0) ?_
                 refine WL.p Q0 (Yl.loadAB agg39 Q0 hs Q1 Q0 Q0) ?_
                 refine WL.callp hs Q0 (Yc.func Q0 fn17) (c_laws_eqNet _ _ _ (hs.okow (x := x118) (F := F118) Q1) ⟨(hs.okow (x := x55) (F := F55) Q1).servers, ⟨(hs.okow (x := x55) (F := F55) Q1).cache.entries⟩, (hs.okow (x := x55) (F := F55) Q1).log, (hs.okow (x := x55) (F := F55) Q1).now⟩) ?_
                 clear hs; intro w hs
                 refine WL.p Q0 (Yl.not Q0) ?_
                 refine Qm ?_
                 refine WL.split (d := 111) Q0 (fun h12 => ?_) (fun h12 => ?_)
                 ·
                  replace h12 := not_eq_true h12
                  replace h12 := of_decide_eq_false h12
                  refine WL.skip (d := 111) Q0 Q0 Q0 Q0 ?_
                  refine WL.skip (d := 111) Q0 Q0 Q0 Q0 ?_
                  refine WL.skip (d := 111) Q0 Q0 Q0 Q0 ?_
                  refine WL.skip (d := 111) Q0 Q0 Q0 Q0 ?_
                  refine WL.p Q0 (Yl.pickT Q0 Q0) ?_
                  refine WL.next ?_
                  refine WC.condT Q0 ?_
                  refine WC.seq ?_
                  refine Qa ?_
                  refine WL.next ?_
                  refine WC.ret ?_
                  refine At.thenret ?_
                  refine fin1' rfl Q0 ?_
                  refine RetP.mk hs ?_
                  try simp only [hx55, hx56, hx87, hx88, hq89, hq90, hx91, hx118] at h1 h2 h3 h4 h5 h6 h7 h8 h9 h10 h11 h12
                  all_goals (first | (simp only [hx55, hx56, hx87, hx88, hq89, hq90, hx91, hx118]; done) | (exfalso; omega) | simp_all)
                 ·
                  replace h12 := not_eq_false h12
                  replace h12 := of_decide_eq_true h12
                  refine WL.run (d := 111) Q0 Q0 ?_
                  refine WL.p Q0 (Yl.loadAB agg41 Q0 hs Q1 Q0 Q0) ?_
                  refine WL.run (d := 111) Q0 Q0 ?_
                  refine WL.p Q0 (Yl.loadAB agg41 Q0 hs Q1 Q0 Q0) ?_
                  refine WL.run (d := 111) Q0 Q0 ?_
                  refine WL.callp hs Q0 (Yc.func Q0 fn18) (c_laws_eqResponse _ _ _) ?_
                  clear hs; intro w hs
                  refine WL.run (d := 111) Q0 Q0 ?_
                  refine WL.p Q0 (Yl.not Q0) ?_
                  refine WL.p Q0 (Yl.pickF Q0 Q0) ?_
                  refine WL.next ?_
                  refine WC.condS Q0 (fun h13 => ?_) (fun h13 => ?_)
                  ·
                   replace h13 := not_eq_true h13
                   replace h13 := of_decide_eq_false h13
                   refine WC.seq ?_
                   refine Qa ?_
                   refine WL.next ?_
                   refine WC.ret ?_
                   refine At.thenret ?_
                   refine fin1' rfl Q0 ?_
                   refine RetP.mk hs ?_
                   try simp only [hx55, hx56, hx87, hx88, hq89, hq90, hx91, hx118] at h1 h2 h3 h4 h5 h6 h7 h8 h9 h10 h11 h12 h13
                   all_goals (first | (simp only [hx55, hx56, hx87, hx88, hq89, hq90, hx91, hx118]; done) | (exfalso; omega) | simp_all)
                  ·
                   replace h13 := not_eq_false h13
                   replace h13 := of_decide_eq_true h13
                   refine WC.skipn ?_
                   refine WC.seq ?_
                   refine Qa ?_
                   refine WL.next ?_
                   refine WC.seq ?_
                   refine WL.p Q0 (Yl.loadAB agg39 Q0 hs Q1 Q0 Q0) ?_
                   refine Qm ?_
                   refine WL.callp hs Q0 (Yc.func Q0 fn20) (calls_conv (congrArg (fun z => ([z, _] : List Value).toArray) (show (.agg #[Sl.v a90.servers, Sl.v a90.cache.entries, Sl.v a90.log, I a90.now] : Value) = .agg #[Sl.v x87.servers, Sl.v x87.cache.entries, Sl.v x87.log, I x87.now] from congrArg (fun l => Value.agg l.toArray) he90)) (c_laws_heldNet a90 _ x87.lg _ (hs.okow (x := a90) (F := F90) Q1) (by first | assumption | omega) (by first | omega | (try simp only [hx55, hx56, hx87, hx88, hx91, hx118]); (have := costoNet_le aN.lg; have := costFetch_le aN.lg aTop aA aGuess; omega)) (by exact hq90))) ?_
                   clear hs; intro w hs
                   refine Qa ?_
                   refine WL.next ?_
                   refine WC.seq' ?_
                   refine WC.seq ?_
                   refine Qm ?_
                   refine WL.p Q0 (Yl.lss Q0 Q0) ?_
                   refine WL.next ?_
                   refine WC.condS Q0 (fun h14 => ?_) (fun h14 => ?_)
                   ·
                    replace h14 := of_decide_eq_true h14
                    refine WC.seq ?_
                    refine Qa ?_
                    refine WL.next ?_
                    refine WC.ret ?_
                    refine At.thenret ?_
                    refine fin1' rfl Q0 ?_
                    refine RetP.mk hs ?_
                    try simp only [hx55, hx56, hx87, hx88, hq89, hq90, hx91, hx118] at h1 h2 h3 h4 h5 h6 h7 h8 h9 h10 h11 h12 h13 h14
                    all_goals (first | (simp only [hx55, hx56, hx87, hx88, hq89, hq90, hx91, hx118]; done) | (exfalso; omega) | simp_all)
                   ·
                    replace h14 := of_decide_eq_false h14
                    refine WC.skipn ?_
                    refine WC.seq' ?_
                    refine WC.seq ?_
                    refine Qm ?_
                    refine Qm ?_
                    refine WL.p Q0 (Yl.nei Q0 Q0) ?_
                    refine WL.next ?_
                    refine WC.condS Q0 (fun h15 => ?_) (fun h15 => ?_)
                    ·
                     replace h15 := not_eq_true h15
                     replace h15 := of_decide_eq_false h15
                     refine WC.seq ?_
                     refine Qa ?_
                     refine WL.next ?_
                     refine WC.ret ?_
                     refine At.thenret ?_
                     refine fin1' rfl Q0 ?_
                     refine RetP.mk hs ?_
                     try simp only [hx55, hx56, hx87, hx88, hq89, hq90, hx91, hx118] at h1 h2 h3 h4 h5 h6 h7 h8 h9 h10 h11 h12 h13 h14 h15
                     all_goals (first | (simp only [hx55, hx56, hx87, hx88, hq89, hq90, hx91, hx118]; done) | (exfalso; omega) | simp_all)
                    ·
                     replace h15 := not_eq_false h15
                     replace h15 := of_decide_eq_true h15
                     refine WC.skipn ?_
                     refine WC.seq ?_
                     refine Qa ?_
                     refine WL.next ?_
                     refine WC.ret ?_
                     refine fin1' rfl Q0 ?_
                     refine RetP.mk hs ?_
                     rfl
              ·
               refine WI.alq 10 Q0 hs zt39 ?_
               clear hs; intro b119 w hs
               refine WA.two (i := 1) (j := 11) Q6 ?_ ?_
               ·
                refine WI.callq 1 Q0 hs (Yc.func Q0 fn14) (c_laws_toNet _ _ (Ph.old h_aN hs) Q7) ?_
                have hs0 := hs; clear hs; intro v w hb hR hs; clear hs
                obtain ⟨x120, rfl, hx120, hf120⟩ := hR
                obtain ⟨F120, hs⟩ := hf120.sat hs0 hb; clear hs0 hf120
                refine WA.two (i := 4) (j := 11) Q6 ?_ ?_
                ·
                 refine WI.callp2 (i := 4) hs (fun _ hs => hs.only Q2) Q0 Q0 (Yc.func Q0 fn15) (c_laws_toAddr _ _) ?_
                 clear hs; intro w hs
                 refine WA.two (i := 6) (j := 11) Q6 ?_ ?_
                 ·
                  refine WI.callq 6 Q0 hs (Yc.func Q0 fn16) (c_impl_FetchNow _ _ _ _ _ (hs.okow (x := x120) (F := F120) Q1) (Ph.old h_aTop hs) (Ph.old h_aA hs) trivial (by rw [hx120]; simp only [TNet.size, lsz] at *; omega) (by rw [hx120]; simp only [TNet.size, lsz] at *; omega) (by have e9 := congrArg (fun z => z.log.length) hx120; simp only [PNet.lg] at e9; simp only [TNet.size, lsz, PNet.lg] at *; omega) (by first | assumption | exact Sat.cellm hs (by assumption))) ?_
                  have hs0 := hs; clear hs; intro v w hb hR hs; clear hs
                  obtain ⟨x121, rfl, hx121, hf121⟩ := hR
                  obtain ⟨F121, hs⟩ := hf121.sat hs0 hb; clear hs0 hf121
                  refine WA.pq 7 Q0 hs (fun w hs => Yl.move Q0) ?_
                  refine WA.pq 8 Q0 hs (fun w hs => Yl.extract Q0 Q0) ?_
                  refine WA.pq 9 Q0 hs (fun w hs => Yl.extract Q0 Q0) ?_
                  refine WA.alq 11 Q0 hs zt41 ?_
                  clear hs; intro b122 w hs
                  refine WA.stq 12 Q0 hs szf39 ?_
                  clear hs; intro w hs
                  refine WA.stq 13 Q0 hs szf41 ?_
                  clear hs; intro w hs
                  refine WA.donen Q6 ?_
                  refine WC.seq' ?_
                  refine WC.seq ?_
                  refine WL.p Q0 (Yl.loadAB agg39 Q0 hs Q1 Q0 Q0) ?_
                  refine WL.p Q0 (Yl.loadAB agg39 Q0 hs Q1 Q0 Q0) ?_
                  refine WL.callp hs Q0 (Yc.func Q0 fn17) (c_laws_eqNet _ _ _ (hs.okow (x := x121) (F := F121) Q1) ⟨(hs.okow (x := x55) (F := F55) Q1).servers, ⟨(hs.okow (x := x55) (F := F55) Q1).cache.entries⟩, (hs.okow (x := x55) (F := F55) Q1).log, (hs.okow (x := x55) (F := F55) Q1).now⟩) ?_
                  clear hs; intro w hs
                  refine WL.p Q0 (Yl.not Q0) ?_
                  refine Qm ?_
                  refine WL.split (d := 111) Q0 (fun h12 => ?_) (fun h12 => ?_)
                  ·
                   replace h12 := not_eq_true h12
                   replace h12 := of_decide_eq_false h12
                   refine WL.skip (d := 111) Q0 Q0 Q0 Q0 ?_
                   refine WL.skip (d := 111) Q0 Q0 Q0 Q0 ?_
                   refine WL.skip (d := 111) Q0 Q0 Q0 Q0 ?_
                   refine WL.skip (d := 111) Q0 Q0 Q0 Q0 ?_
                   refine WL.p Q0 (Yl.pickT Q0 Q0) ?_
                   refine WL.next ?_
                   refine WC.condT Q0 ?_
                   refine WC.seq ?_
                   refine Qa ?_
                   refine WL.next ?_
                   refine WC.ret ?_
                   refine At.thenret ?_
                   refine fin1' rfl Q0 ?_
                   refine RetP.mk hs ?_
                   try simp only [hx55, hx56, hx87, hx88, hq89, hq90, hx120, hx121] at h1 h2 h3 h4 h5 h6 h7 h8 h9 h10 h11 h12
                   all_goals (first | (simp only [hx55, hx56, hx87, hx88, hq89, hq90, hx120, hx121]; done) | (exfalso; omega) | simp_all)
                  ·
                   replace h12 := not_eq_false h12
                   replace h12 := of_decide_eq_true h12
                   refine WL.run (d := 111) Q0 Q0 ?_
                   refine WL.p Q0 (Yl.loadAB agg41 Q0 hs Q1 Q0 Q0) ?_
                   refine WL.run (d := 111) Q0 Q0 ?_
                   refine WL.p Q0 (Yl.loadAB agg41 Q0 hs Q1 Q0 Q0) ?_
                   refine WL.run (d := 111) Q0 Q0 ?_
                   refine WL.callp hs Q0 (Yc.func Q0 fn18) (c_laws_eqResponse _ _ _) ?_
                   clear hs; intro w hs
                   refine WL.run (d := 111) Q0 Q0 ?_
                   refine WL.p Q0 (Yl.not Q0) ?_
                   refine WL.p Q0 (Yl.pickF Q0 Q0) ?_
                   refine WL.next ?_
                   refine WC.condS Q0 (fun h13 => ?_) (fun h13 => ?_)
                   ·
                    replace h13 := not_eq_true h13
                    replace h13 := of_decide_eq_false h13
                    refine WC.seq ?_
                    refine Qa ?_
                    refine WL.next ?_
                    refine WC.ret ?_
                    refine At.thenret ?_
                    refine fin1' rfl Q0 ?_
                    refine RetP.mk hs ?_
                    try simp only [hx55, hx56, hx87, hx88, hq89, hq90, hx120, hx121] at h1 h2 h3 h4 h5 h6 h7 h8 h9 h10 h11 h12 h13
                    all_goals (first | (simp only [hx55, hx56, hx87, hx88, hq89, hq90, hx120, hx121]; done) | (exfalso; omega) | simp_all)
                   ·
                    replace h13 := not_eq_false h13
                    replace h13 := of_decide_eq_true h13
                    refine WC.skipn ?_
                    refine WC.seq ?_
                    refine Qa ?_
                    refine WL.next ?_
                    refine WC.seq ?_
                    refine WL.p Q0 (Yl.loadAB agg39 Q0 hs Q1 Q0 Q0) ?_
                    refine Qm ?_
                    refine WL.callp hs Q0 (Yc.func Q0 fn20) (calls_conv (congrArg (fun z => ([z, _] : List Value).toArray) (show (.agg #[Sl.v a90.servers, Sl.v a90.cache.entries, Sl.v a90.log, I a90.now] : Value) = .agg #[Sl.v x87.servers, Sl.v x87.cache.entries, Sl.v x87.log, I x87.now] from congrArg (fun l => Value.agg l.toArray) he90)) (c_laws_heldNet a90 _ x87.lg _ (hs.okow (x := a90) (F := F90) Q1) (by first | assumption | omega) (by first | omega | (try simp only [hx55, hx56, hx87, hx88, hx120, hx121]); (have := costoNet_le aN.lg; have := costFetch_le aN.lg aTop aA aGuess; omega)) (by exact hq90))) ?_
                    clear hs; intro w hs
                    refine Qa ?_
                    refine WL.next ?_
                    refine WC.seq' ?_
                    refine WC.seq ?_
                    refine Qm ?_
                    refine WL.p Q0 (Yl.lss Q0 Q0) ?_
                    refine WL.next ?_
                    refine WC.condS Q0 (fun h14 => ?_) (fun h14 => ?_)
                    ·
                     replace h14 := of_decide_eq_true h14
                     refine WC.seq ?_
                     refine Qa ?_
                     refine WL.next ?_
                     refine WC.ret ?_
                     refine At.thenret ?_
                     refine fin1' rfl Q0 ?_
                     refine RetP.mk hs ?_
                     try simp only [hx55, hx56, hx87, hx88, hq89, hq90, hx120, hx121] at h1 h2 h3 h4 h5 h6 h7 h8 h9 h10 h11 h12 h13 h14
                     all_goals (first | (simp only [hx55, hx56, hx87, hx88, hq89, hq90, hx120, hx121]; done) | (exfalso; omega) | simp_all)
                    ·
                     replace h14 := of_decide_eq_false h14
                     refine WC.skipn ?_
                     refine WC.seq' ?_
                     refine WC.seq ?_
                     refine Qm ?_
                     refine Qm ?_
                     refine WL.p Q0 (Yl.nei Q0 Q0) ?_
                     refine WL.next ?_
                     refine WC.condS Q0 (fun h15 => ?_) (fun h15 => ?_)
                     ·
                      replace h15 := not_eq_true h15
                      replace h15 := of_decide_eq_false h15
                      refine WC.seq ?_
                      refine Qa ?_
                      refine WL.next ?_
                      refine WC.ret ?_
                      refine At.thenret ?_
                      refine fin1' rfl Q0 ?_
                      refine RetP.mk hs ?_
                      try simp only [hx55, hx56, hx87, hx88, hq89, hq90, hx120, hx121] at h1 h2 h3 h4 h5 h6 h7 h8 h9 h10 h11 h12 h13 h14 h15
                      all_goals (first | (simp only [hx55, hx56, hx87, hx88, hq89, hq90, hx120, hx121]; done) | (exfalso; omega) | simp_all)
                     ·
                      replace h15 := not_eq_false h15
                      replace h15 := of_decide_eq_true h15
                      refine WC.skipn ?_
                      refine WC.seq ?_
                      refine Qa ?_
                      refine WL.next ?_
                      refine WC.ret ?_
                      refine fin1' rfl Q0 ?_
                      refine RetP.mk hs ?_
                      rfl
                 ·
                  refine WI.alq 11 Q0 hs zt41 ?_
                  clear hs; intro b123 w hs
                  refine WA.callq 6 Q0 hs (Yc.func Q0 fn16) (c_impl_FetchNow _ _ _ _ _ (hs.okow (x := x120) (F := F120) Q1) (Ph.old h_aTop hs) (Ph.old h_aA hs) trivial (by rw [hx120]; simp only [TNet.size, lsz] at *; omega) (by rw [hx120]; simp only [TNet.size, lsz] at *; omega) (by have e9 := congrArg (fun z => z.log.length) hx120; simp only [PNet.lg] at e9; simp only [TNet.size, lsz, PNet.lg] at *; omega) (by first | assumption | exact Sat.cellm hs (by assumption))) ?_
                  have hs0 := hs; clear hs; intro v w hb hR hs; clear hs
                  obtain ⟨x124, rfl, hx124, hf124⟩ := hR
                  obtain ⟨F124, hs⟩ := hf124.sat hs0 hb; clear hs0 hf124
                  refine WA.pq 7 Q0 hs (fun w hs => Yl.move Q0) ?_
                  refine WA.pq 8 Q0 hs (fun w hs => Yl.extract Q0 Q0) ?_
                  refine WA.pq 9 Q0 hs (fun w hs => Yl.extract Q0 Q0) ?_
                  refine WA.stq 12 Q0 hs szf39 ?_
                  clear hs; intro w hs
                  refine WA.stq 13 Q0 hs szf41 ?_
                  clear hs; intro w hs
                  refine WA.donen Q6 ?_
                  refine WC.seq' ?_
                  refine WC.seq ?_
                  refine WL.p Q0 (Yl.loadAB agg39 Q0 hs Q1 Q0 Q0) ?_
                  refine WL.p Q0 (Yl.loadAB agg39 Q0 hs Q1 Q0 Q0) ?_
                  refine WL.callp hs Q0 (Yc.func Q0 fn17) (c_laws_eqNet _ _ _ (hs.okow (x := x124) (F := F124) Q1) ⟨(hs.okow (x := x55) (F := F55) Q1).servers, ⟨(hs.okow (x := x55) (F := F55) Q1).cache.entries⟩, (hs.okow (x := x55) (F := F55) Q1).log, (hs.okow (x := x55) (F := F55) Q1).now⟩) ?_
                  clear hs; intro w hs
                  refine WL.p Q0 (Yl.not Q0) ?_
                  refine Qm ?_
                  refine WL.split (d := 111) Q0 (fun h12 => ?_) (fun h12 => ?_)
                  ·
                   replace h12 := not_eq_true h12
                   replace h12 := of_decide_eq_false h12
                   refine WL.skip (d := 111) Q0 Q0 Q0 Q0 ?_
                   refine WL.skip (d := 111) Q0 Q0 Q0 Q0 ?_
                   refine WL.skip (d := 111) Q0 Q0 Q0 Q0 ?_
                   refine WL.skip (d := 111) Q0 Q0 Q0 Q0 ?_
                   refine WL.p Q0 (Yl.pickT Q0 Q0) ?_
                   refine WL.next ?_
                   refine WC.condT Q0 ?_
                   refine WC.seq ?_
                   refine Qa ?_
                   refine WL.next ?_
                   refine WC.ret ?_
                   refine At.thenret ?_
                   refine fin1' rfl Q0 ?_
                   refine RetP.mk hs ?_
                   try simp only [hx55, hx56, hx87, hx88, hq89, hq90, hx120, hx124] at h1 h2 h3 h4 h5 h6 h7 h8 h9 h10 h11 h12
                   all_goals (first | (simp only [hx55, hx56, hx87, hx88, hq89, hq90, hx120, hx124]; done) | (exfalso; omega) | simp_all)
                  ·
                   replace h12 := not_eq_false h12
                   replace h12 := of_decide_eq_true h12
                   refine WL.run (d := 111) Q0 Q0 ?_
                   refine WL.p Q0 (Yl.loadAB agg41 Q0 hs Q1 Q0 Q0) ?_
                   refine WL.run (d := 111) Q0 Q0 ?_
                   refine WL.p Q0 (Yl.loadAB agg41 Q0 hs Q1 Q0 Q0) ?_
                   refine WL.run (d := 111) Q0 Q0 ?_
                   refine WL.callp hs Q0 (Yc.func Q0 fn18) (c_laws_eqResponse _ _ _) ?_
                   clear hs; intro w hs
                   refine WL.run (d := 111) Q0 Q0 ?_
                   refine WL.p Q0 (Yl.not Q0) ?_
                   refine WL.p Q0 (Yl.pickF Q0 Q0) ?_
                   refine WL.next ?_
                   refine WC.condS Q0 (fun h13 => ?_) (fun h13 => ?_)
                   ·
                    replace h13 := not_eq_true h13
                    replace h13 := of_decide_eq_false h13
                    refine WC.seq ?_
                    refine Qa ?_
                    refine WL.next ?_
                    refine WC.ret ?_
                    refine At.thenret ?_
                    refine fin1' rfl Q0 ?_
                    refine RetP.mk hs ?_
                    try simp only [hx55, hx56, hx87, hx88, hq89, hq90, hx120, hx124] at h1 h2 h3 h4 h5 h6 h7 h8 h9 h10 h11 h12 h13
                    all_goals (first | (simp only [hx55, hx56, hx87, hx88, hq89, hq90, hx120, hx124]; done) | (exfalso; omega) | simp_all)
                   ·
                    replace h13 := not_eq_false h13
                    replace h13 := of_decide_eq_true h13
                    refine WC.skipn ?_
                    refine WC.seq ?_
                    refine Qa ?_
                    refine WL.next ?_
                    refine WC.seq ?_
                    refine WL.p Q0 (Yl.loadAB agg39 Q0 hs Q1 Q0 Q0) ?_
                    refine Qm ?_
                    refine WL.callp hs Q0 (Yc.func Q0 fn20) (calls_conv (congrArg (fun z => ([z, _] : List Value).toArray) (show (.agg #[Sl.v a90.servers, Sl.v a90.cache.entries, Sl.v a90.log, I a90.now] : Value) = .agg #[Sl.v x87.servers, Sl.v x87.cache.entries, Sl.v x87.log, I x87.now] from congrArg (fun l => Value.agg l.toArray) he90)) (c_laws_heldNet a90 _ x87.lg _ (hs.okow (x := a90) (F := F90) Q1) (by first | assumption | omega) (by first | omega | (try simp only [hx55, hx56, hx87, hx88, hx120, hx124]); (have := costoNet_le aN.lg; have := costFetch_le aN.lg aTop aA aGuess; omega)) (by exact hq90))) ?_
                    clear hs; intro w hs
                    refine Qa ?_
                    refine WL.next ?_
                    refine WC.seq' ?_
                    refine WC.seq ?_
                    refine Qm ?_
                    refine WL.p Q0 (Yl.lss Q0 Q0) ?_
                    refine WL.next ?_
                    refine WC.condS Q0 (fun h14 => ?_) (fun h14 => ?_)
                    ·
                     replace h14 := of_decide_eq_true h14
                     refine WC.seq ?_
                     refine Qa ?_
                     refine WL.next ?_
                     refine WC.ret ?_
                     refine At.thenret ?_
                     refine fin1' rfl Q0 ?_
                     refine RetP.mk hs ?_
                     try simp only [hx55, hx56, hx87, hx88, hq89, hq90, hx120, hx124] at h1 h2 h3 h4 h5 h6 h7 h8 h9 h10 h11 h12 h13 h14
                     all_goals (first | (simp only [hx55, hx56, hx87, hx88, hq89, hq90, hx120, hx124]; done) | (exfalso; omega) | simp_all)
                    ·
                     replace h14 := of_decide_eq_false h14
                     refine WC.skipn ?_
                     refine WC.seq' ?_
                     refine WC.seq ?_
                     refine Qm ?_
                     refine Qm ?_
                     refine WL.p Q0 (Yl.nei Q0 Q0) ?_
                     refine WL.next ?_
                     refine WC.condS Q0 (fun h15 => ?_) (fun h15 => ?_)
                     ·
                      replace h15 := not_eq_true h15
                      replace h15 := of_decide_eq_false h15
                      refine WC.seq ?_
                      refine Qa ?_
                      refine WL.next ?_
                      refine WC.ret ?_
                      refine At.thenret ?_
                      refine fin1' rfl Q0 ?_
                      refine RetP.mk hs ?_
                      try simp only [hx55, hx56, hx87, hx88, hq89, hq90, hx120, hx124] at h1 h2 h3 h4 h5 h6 h7 h8 h9 h10 h11 h12 h13 h14 h15
                      all_goals (first | (simp only [hx55, hx56, hx87, hx88, hq89, hq90, hx120, hx124]; done) | (exfalso; omega) | simp_all)
                     ·
                      replace h15 := not_eq_false h15
                      replace h15 := of_decide_eq_true h15
                      refine WC.skipn ?_
                      refine WC.seq ?_
                      refine Qa ?_
                      refine WL.next ?_
                      refine WC.ret ?_
                      refine fin1' rfl Q0 ?_
                      refine RetP.mk hs ?_
                      rfl
                ·
                 refine WI.alq 11 Q0 hs zt41 ?_
                 clear hs; intro b125 w hs
                 refine WA.callp2 (i := 4) hs (fun _ hs => hs.only Q2) Q6 Q0 Q0 (Yc.func Q0 fn15) (c_laws_toAddr _ _) ?_
                 clear hs; intro w hs
                 refine WA.callq 6 Q0 hs (Yc.func Q0 fn16) (c_impl_FetchNow _ _ _ _ _ (hs.okow (x := x120) (F := F120) Q1) (Ph.old h_aTop hs) (Ph.old h_aA hs) trivial (by rw [hx120]; simp only [TNet.size, lsz] at *; omega) (by rw [hx120]; simp only [TNet.size, lsz] at *; omega) (by have e9 := congrArg (fun z => z.log.length) hx120; simp only [PNet.lg] at e9; simp only [TNet.size, lsz, PNet.lg] at *; omega) (by first | assumption | exact Sat.cellm hs (by assumption))) ?_
                 have hs0 := hs; clear hs; intro v w hb hR hs; clear hs
                 obtain ⟨x126, rfl, hx126, hf126⟩ := hR
                 obtain ⟨F126, hs⟩ := hf126.sat hs0 hb; clear hs0 hf126
                 refine WA.pq 7 Q0 hs (fun w hs => Yl.move Q0) ?_
                 refine WA.pq 8 Q0 hs (fun w hs => Yl.extract Q0 Q0) ?_
                 refine WA.pq 9 Q0 hs (fun w hs => Yl.extract Q0 Q0) ?_
                 refine WA.stq 12 Q0 hs szf39 ?_
                 clear hs; intro w hs
                 refine WA.stq 13 Q0 hs szf41 ?_
                 clear hs; intro w hs
                 refine WA.donen Q6 ?_
                 refine WC.seq' ?_
                 refine WC.seq ?_
                 refine WL.p Q0 (Yl.loadAB agg39 Q0 hs Q1 Q0 Q0) ?_
                 refine WL.p Q0 (Yl.loadAB agg39 Q0 hs Q1 Q0 Q0) ?_
                 refine WL.callp hs Q0 (Yc.func Q0 fn17) (c_laws_eqNet _ _ _ (hs.okow (x := x126) (F := F126) Q1) ⟨(hs.okow (x := x55) (F := F55) Q1).servers, ⟨(hs.okow (x := x55) (F := F55) Q1).cache.entries⟩, (hs.okow (x := x55) (F := F55) Q1).log, (hs.okow (x := x55) (F := F55) Q1).now⟩) ?_
                 clear hs; intro w hs
                 refine WL.p Q0 (Yl.not Q0) ?_
                 refine Qm ?_
                 refine WL.split (d := 111) Q0 (fun h12 => ?_) (fun h12 => ?_)
                 ·
                  replace h12 := not_eq_true h12
                  replace h12 := of_decide_eq_false h12
                  refine WL.skip (d := 111) Q0 Q0 Q0 Q0 ?_
                  refine WL.skip (d := 111) Q0 Q0 Q0 Q0 ?_
                  refine WL.skip (d := 111) Q0 Q0 Q0 Q0 ?_
                  refine WL.skip (d := 111) Q0 Q0 Q0 Q0 ?_
                  refine WL.p Q0 (Yl.pickT Q0 Q0) ?_
                  refine WL.next ?_
                  refine WC.condT Q0 ?_
                  refine WC.seq ?_
                  refine Qa ?_
                  refine WL.next ?_
                  refine WC.ret ?_
                  refine At.thenret ?_
                  refine fin1' rfl Q0 ?_
                  refine RetP.mk hs ?_
                  try simp only [hx55, hx56, hx87, hx88, hq89, hq90, hx120, hx126] at h1 h2 h3 h4 h5 h6 h7 h8 h9 h10 h11 h12
                  all_goals (first | (simp only [hx55, hx56, hx87, hx88, hq89, hq90, hx120, hx126]; done) | (exfalso; omega) | simp_all)
                 ·
                  replace h12 := not_eq_false h12
                  replace h12 := of_decide_eq_true h12
                  refine WL.run (d := 111) Q0 Q0 ?_
                  refine WL.p Q0 (Yl.loadAB agg41 Q0 hs Q1 Q0 Q0) ?_
                  refine WL.run (d := 111) Q0 Q0 ?_
                  refine WL.p Q0 (Yl.loadAB agg41 Q0 hs Q1 Q0 Q0) ?_
                  refine WL.run (d := 111) Q0 Q0 ?_
                  refine WL.callp hs Q0 (Yc.func Q0 fn18) (c_laws_eqResponse _ _ _) ?_
                  clear hs; intro w hs
                  refine WL.run (d := 111) Q0 Q0 ?_
                  refine WL.p Q0 (Yl.not Q0) ?_
                  refine WL.p Q0 (Yl.pickF Q0 Q0) ?_
                  refine WL.next ?_
                  refine WC.condS Q0 (fun h13 => ?_) (fun h13 => ?_)
                  ·
                   replace h13 := not_eq_true h13
                   replace h13 := of_decide_eq_false h13
                   refine WC.seq ?_
                   refine Qa ?_
                   refine WL.next ?_
                   refine WC.ret ?_
                   refine At.thenret ?_
                   refine fin1' rfl Q0 ?_
                   refine RetP.mk hs ?_
                   try simp only [hx55, hx56, hx87, hx88, hq89, hq90, hx120, hx126] at h1 h2 h3 h4 h5 h6 h7 h8 h9 h10 h11 h12 h13
                   all_goals (first | (simp only [hx55, hx56, hx87, hx88, hq89, hq90, hx120, hx126]; done) | (exfalso; omega) | simp_all)
                  ·
                   replace h13 := not_eq_false h13
                   replace h13 := of_decide_eq_true h13
                   refine WC.skipn ?_
                   refine WC.seq ?_
                   refine Qa ?_
                   refine WL.next ?_
                   refine WC.seq ?_
                   refine WL.p Q0 (Yl.loadAB agg39 Q0 hs Q1 Q0 Q0) ?_
                   refine Qm ?_
                   refine WL.callp hs Q0 (Yc.func Q0 fn20) (calls_conv (congrArg (fun z => ([z, _] : List Value).toArray) (show (.agg #[Sl.v a90.servers, Sl.v a90.cache.entries, Sl.v a90.log, I a90.now] : Value) = .agg #[Sl.v x87.servers, Sl.v x87.cache.entries, Sl.v x87.log, I x87.now] from congrArg (fun l => Value.agg l.toArray) he90)) (c_laws_heldNet a90 _ x87.lg _ (hs.okow (x := a90) (F := F90) Q1) (by first | assumption | omega) (by first | omega | (try simp only [hx55, hx56, hx87, hx88, hx120, hx126]); (have := costoNet_le aN.lg; have := costFetch_le aN.lg aTop aA aGuess; omega)) (by exact hq90))) ?_
                   clear hs; intro w hs
                   refine Qa ?_
                   refine WL.next ?_
                   refine WC.seq' ?_
                   refine WC.seq ?_
                   refine Qm ?_
                   refine WL.p Q0 (Yl.lss Q0 Q0) ?_
                   refine WL.next ?_
                   refine WC.condS Q0 (fun h14 => ?_) (fun h14 => ?_)
                   ·
                    replace h14 := of_decide_eq_true h14
                    refine WC.seq ?_
                    refine Qa ?_
                    refine WL.next ?_
                    refine WC.ret ?_
                    refine At.thenret ?_
                    refine fin1' rfl Q0 ?_
                    refine RetP.mk hs ?_
                    try simp only [hx55, hx56, hx87, hx88, hq89, hq90, hx120, hx126] at h1 h2 h3 h4 h5 h6 h7 h8 h9 h10 h11 h12 h13 h14
                    all_goals (first | (simp only [hx55, hx56, hx87, hx88, hq89, hq90, hx120, hx126]; done) | (exfalso; omega) | simp_all)
                   ·
                    replace h14 := of_decide_eq_false h14
                    refine WC.skipn ?_
                    refine WC.seq' ?_
                    refine WC.seq ?_
                    refine Qm ?_
                    refine Qm ?_
                    refine WL.p Q0 (Yl.nei Q0 Q0) ?_
                    refine WL.next ?_
                    refine WC.condS Q0 (fun h15 => ?_) (fun h15 => ?_)
                    ·
                     replace h15 := not_eq_true h15
                     replace h15 := of_decide_eq_false h15
                     refine WC.seq ?_
                     refine Qa ?_
                     refine WL.next ?_
                     refine WC.ret ?_
                     refine At.thenret ?_
                     refine fin1' rfl Q0 ?_
                     refine RetP.mk hs ?_
                     try simp only [hx55, hx56, hx87, hx88, hq89, hq90, hx120, hx126] at h1 h2 h3 h4 h5 h6 h7 h8 h9 h10 h11 h12 h13 h14 h15
                     all_goals (first | (simp only [hx55, hx56, hx87, hx88, hq89, hq90, hx120, hx126]; done) | (exfalso; omega) | simp_all)
                    ·
                     replace h15 := not_eq_false h15
                     replace h15 := of_decide_eq_true h15
                     refine WC.skipn ?_
                     refine WC.seq ?_
                     refine Qa ?_
                     refine WL.next ?_
                     refine WC.ret ?_
                     refine fin1' rfl Q0 ?_
                     refine RetP.mk hs ?_
                     rfl
               ·
                refine WI.alq 11 Q0 hs zt41 ?_
                clear hs; intro b127 w hs
                refine WA.callq 1 Q0 hs (Yc.func Q0 fn14) (c_laws_toNet _ _ (Ph.old h_aN hs) Q7) ?_
                have hs0 := hs; clear hs; intro v w hb hR hs; clear hs
                obtain ⟨x128, rfl, hx128, hf128⟩ := hR
                obtain ⟨F128, hs⟩ := hf128.sat hs0 hb; clear hs0 hf128
                refine WA.callp2 (i := 4) hs (fun _ hs => hs.only Q2) Q6 Q0 Q0 (Yc.func Q0 fn15) (c_laws_toAddr _ _) ?_
                clear hs; intro w hs
                refine WA.callq 6 Q0 hs (Yc.func Q0 fn16) (c_impl_FetchNow _ _ _ _ _ (hs.okow (x := x128) (F := F128) Q1) (Ph.old h_aTop hs) (Ph.old h_aA hs) trivial (by rw [hx128]; simp only [TNet.size, lsz] at *; omega) (by rw [hx128]; simp only [TNet.size, lsz] at *; omega) (by have e9 := congrArg (fun z => z.log.length) hx128; simp only [PNet.lg] at e9; simp only [TNet.size, lsz, PNet.lg] at *; omega) (by first | assumption | exact Sat.cellm hs (by assumption))) ?_
                have hs0 := hs; clear hs; intro v w hb hR hs; clear hs
                obtain ⟨x129, rfl, hx129, hf129⟩ := hR
                obtain ⟨F129, hs⟩ := hf129.sat hs0 hb; clear hs0 hf129
                refine WA.pq 7 Q0 hs (fun w hs => Yl.move Q0) ?_
                refine WA.pq 8 Q0 hs (fun w hs => Yl.extract Q0 Q0) ?_
                refine WA.pq 9 Q0 hs (fun w hs => Yl.extract Q0 Q0) ?_
                refine WA.stq 12 Q0 hs szf39 ?_
                clear hs; intro w hs
                refine WA.stq 13 Q0 hs szf41 ?_
                clear hs; intro w hs
                refine WA.donen Q6 ?_
                refine WC.seq' ?_
                refine WC.seq ?_
                refine WL.p Q0 (Yl.loadAB agg39 Q0 hs Q1 Q0 Q0) ?_
                refine WL.p Q0 (Yl.loadAB agg39 Q0 hs Q1 Q0 Q0) ?_
                refine WL.callp hs Q0 (Yc.func Q0 fn17) (c_laws_eqNet _ _ _ (hs.okow (x := x129) (F := F129) Q1) ⟨(hs.okow (x := x55) (F := F55) Q1).servers, ⟨(hs.okow (x := x55) (F := F55) Q1).cache.entries⟩, (hs.okow (x := x55) (F := F55) Q1).log, (hs.okow (x := x55) (F := F55) Q1).now⟩) ?_
                clear hs; intro w hs
                refine WL.p Q0 (Yl.not Q0) ?_
                refine Qm ?_
                refine WL.split (d := 111) Q0 (fun h12 => ?_) (fun h12 => ?_)
                ·
                 replace h12 := not_eq_true h12
                 replace h12 := of_decide_eq_false h12
                 refine WL.skip (d := 111) Q0 Q0 Q0 Q0 ?_
                 refine WL.skip (d := 111) Q0 Q0 Q0 Q0 ?_
                 refine WL.skip (d := 111) Q0 Q0 Q0 Q0 ?_
                 refine WL.skip (d := 111) Q0 Q0 Q0 Q0 ?_
                 refine WL.p Q0 (Yl.pickT Q0 Q0) ?_
                 refine WL.next ?_
                 refine WC.condT Q0 ?_
                 refine WC.seq ?_
                 refine Qa ?_
                 refine WL.next ?_
                 refine WC.ret ?_
                 refine At.thenret ?_
                 refine fin1' rfl Q0 ?_
                 refine RetP.mk hs ?_
                 try simp only [hx55, hx56, hx87, hx88, hq89, hq90, hx128, hx129] at h1 h2 h3 h4 h5 h6 h7 h8 h9 h10 h11 h12
                 all_goals (first | (simp only [hx55, hx56, hx87, hx88, hq89, hq90, hx128, hx129]; done) | (exfalso; omega) | simp_all)
                ·
                 replace h12 := not_eq_false h12
                 replace h12 := of_decide_eq_true h12
                 refine WL.run (d := 111) Q0 Q0 ?_
                 refine WL.p Q0 (Yl.loadAB agg41 Q0 hs Q1 Q0 Q0) ?_
                 refine WL.run (d := 111) Q0 Q0 ?_
                 refine WL.p Q0 (Yl.loadAB agg41 Q0 hs Q1 Q0 Q0) ?_
                 refine WL.run (d := 111) Q0 Q0 ?_
                 refine WL.callp hs Q0 (Yc.func Q0 fn18) (c_laws_eqResponse _ _ _) ?_
                 clear hs; intro w hs
                 refine WL.run (d := 111) Q0 Q0 ?_
                 refine WL.p Q0 (Yl.not Q0) ?_
                 refine WL.p Q0 (Yl.pickF Q0 Q0) ?_
                 refine WL.next ?_
                 refine WC.condS Q0 (fun h13 => ?_) (fun h13 => ?_)
                 ·
                  replace h13 := not_eq_true h13
                  replace h13 := of_decide_eq_false h13
                  refine WC.seq ?_
                  refine Qa ?_
                  refine WL.next ?_
                  refine WC.ret ?_
                  refine At.thenret ?_
                  refine fin1' rfl Q0 ?_
                  refine RetP.mk hs ?_
                  try simp only [hx55, hx56, hx87, hx88, hq89, hq90, hx128, hx129] at h1 h2 h3 h4 h5 h6 h7 h8 h9 h10 h11 h12 h13
                  all_goals (first | (simp only [hx55, hx56, hx87, hx88, hq89, hq90, hx128, hx129]; done) | (exfalso; omega) | simp_all)
                 ·
                  replace h13 := not_eq_false h13
                  replace h13 := of_decide_eq_true h13
                  refine WC.skipn ?_
                  refine WC.seq ?_
                  refine Qa ?_
                  refine WL.next ?_
                  refine WC.seq ?_
                  refine WL.p Q0 (Yl.loadAB agg39 Q0 hs Q1 Q0 Q0) ?_
                  refine Qm ?_
                  refine WL.callp hs Q0 (Yc.func Q0 fn20) (calls_conv (congrArg (fun z => ([z, _] : List Value).toArray) (show (.agg #[Sl.v a90.servers, Sl.v a90.cache.entries, Sl.v a90.log, I a90.now] : Value) = .agg #[Sl.v x87.servers, Sl.v x87.cache.entries, Sl.v x87.log, I x87.now] from congrArg (fun l => Value.agg l.toArray) he90)) (c_laws_heldNet a90 _ x87.lg _ (hs.okow (x := a90) (F := F90) Q1) (by first | assumption | omega) (by first | omega | (try simp only [hx55, hx56, hx87, hx88, hx128, hx129]); (have := costoNet_le aN.lg; have := costFetch_le aN.lg aTop aA aGuess; omega)) (by exact hq90))) ?_
                  clear hs; intro w hs
                  refine Qa ?_
                  refine WL.next ?_
                  refine WC.seq' ?_
                  refine WC.seq ?_
                  refine Qm ?_
                  refine WL.p Q0 (Yl.lss Q0 Q0) ?_
                  refine WL.next ?_
                  refine WC.condS Q0 (fun h14 => ?_) (fun h14 => ?_)
                  ·
                   replace h14 := of_decide_eq_true h14
                   refine WC.seq ?_
                   refine Qa ?_
                   refine WL.next ?_
                   refine WC.ret ?_
                   refine At.thenret ?_
                   refine fin1' rfl Q0 ?_
                   refine RetP.mk hs ?_
                   try simp only [hx55, hx56, hx87, hx88, hq89, hq90, hx128, hx129] at h1 h2 h3 h4 h5 h6 h7 h8 h9 h10 h11 h12 h13 h14
                   all_goals (first | (simp only [hx55, hx56, hx87, hx88, hq89, hq90, hx128, hx129]; done) | (exfalso; omega) | simp_all)
                  ·
                   replace h14 := of_decide_eq_false h14
                   refine WC.skipn ?_
                   refine WC.seq' ?_
                   refine WC.seq ?_
                   refine Qm ?_
                   refine Qm ?_
                   refine WL.p Q0 (Yl.nei Q0 Q0) ?_
                   refine WL.next ?_
                   refine WC.condS Q0 (fun h15 => ?_) (fun h15 => ?_)
                   ·
                    replace h15 := not_eq_true h15
                    replace h15 := of_decide_eq_false h15
                    refine WC.seq ?_
                    refine Qa ?_
                    refine WL.next ?_
                    refine WC.ret ?_
                    refine At.thenret ?_
                    refine fin1' rfl Q0 ?_
                    refine RetP.mk hs ?_
                    try simp only [hx55, hx56, hx87, hx88, hq89, hq90, hx128, hx129] at h1 h2 h3 h4 h5 h6 h7 h8 h9 h10 h11 h12 h13 h14 h15
                    all_goals (first | (simp only [hx55, hx56, hx87, hx88, hq89, hq90, hx128, hx129]; done) | (exfalso; omega) | simp_all)
                   ·
                    replace h15 := not_eq_false h15
                    replace h15 := of_decide_eq_true h15
                    refine WC.skipn ?_
                    refine WC.seq ?_
                    refine Qa ?_
                    refine WL.next ?_
                    refine WC.ret ?_
                    refine fin1' rfl Q0 ?_
                    refine RetP.mk hs ?_
                    rfl
              ·
               refine WI.alq 11 Q0 hs zt41 ?_
               clear hs; intro b130 w hs
               refine WA.two (i := 1) (j := 10) Q6 ?_ ?_
               ·
                refine WI.callq 1 Q0 hs (Yc.func Q0 fn14) (c_laws_toNet _ _ (Ph.old h_aN hs) Q7) ?_
                have hs0 := hs; clear hs; intro v w hb hR hs; clear hs
                obtain ⟨x131, rfl, hx131, hf131⟩ := hR
                obtain ⟨F131, hs⟩ := hf131.sat hs0 hb; clear hs0 hf131
                refine WA.two (i := 4) (j := 10) Q6 ?_ ?_
                ·
                 refine WI.callp2 (i := 4) hs (fun _ hs => hs.only Q2) Q0 Q0 (Yc.func Q0 fn15) (c_laws_toAddr _ _) ?_
                 clear hs; intro w hs
                 refine WA.two (i := 6) (j := 10) Q6 ?_ ?_
                 ·
                  refine WI.callq 6 Q0 hs (Yc.func Q0 fn16) (c_impl_FetchNow _ _ _ _ _ (hs.okow (x := x131) (F := F131) Q1) (Ph.old h_aTop hs) (Ph.old h_aA hs) trivial (by rw [hx131]; simp only [TNet.size, lsz] at *; omega) (by rw [hx131]; simp only [TNet.size, lsz] at *; omega) (by have e9 := congrArg (fun z => z.log.length) hx131; simp only [PNet.lg] at e9; simp only [TNet.size, lsz, PNet.lg] at *; omega) (by first | assumption | exact Sat.cellm hs (by assumption))) ?_
                  have hs0 := hs; clear hs; intro v w hb hR hs; clear hs
                  obtain ⟨x132, rfl, hx132, hf132⟩ := hR
                  obtain ⟨F132, hs⟩ := hf132.sat hs0 hb; clear hs0 hf132
                  refine WA.pq 7 Q0 hs (fun w hs => Yl.move Q0) ?_
                  refine WA.pq 8 Q0 hs (fun w hs => Yl.extract Q0 Q0) ?_
                  refine WA.pq 9 Q0 hs (fun w hs => Yl.extract Q0 Q0) ?_
                  refine WA.alq 10 Q0 hs zt39 ?_
                  clear hs; intro b133 w hs
                  refine WA.stq 12 Q0 hs szf39 ?_
                  clear hs; intro w hs
                  refine WA.stq 13 Q0 hs szf41 ?_
                  clear hs; intro w hs
                  refine WA.donen Q6 ?_
                  refine WC.seq' ?_
                  refine WC.seq ?_
                  refine WL.p Q0 (Yl.loadAB agg39 Q0 hs Q1 Q0 Q0) ?_
                  refine WL.p Q0 (Yl.loadAB agg39 Q0 hs Q1 Q0 Q0) ?_
                  refine WL.callp hs Q0 (Yc.func Q0 fn17) (c_laws_eqNet _ _ _ (hs.okow (x := x132) (F := F132) Q1) ⟨(hs.okow (x := x55) (F := F55) Q1).servers, ⟨(hs.okow (x := x55) (F := F55) Q1).cache.entries⟩, (hs.okow (x := x55) (F := F55) Q1).log, (hs.okow (x := x55) (F := F55) Q1).now⟩) ?_
                  clear hs; intro w hs
                  refine WL.p Q0 (Yl.not Q0) ?_
                  refine Qm ?_
                  refine WL.split (d := 111) Q0 (fun h12 => ?_) (fun h12 => ?_)
                  ·
                   replace h12 := not_eq_true h12
                   replace h12 := of_decide_eq_false h12
                   refine WL.skip (d := 111) Q0 Q0 Q0 Q0 ?_
                   refine WL.skip (d := 111) Q0 Q0 Q0 Q0 ?_
                   refine WL.skip (d := 111) Q0 Q0 Q0 Q0 ?_
                   refine WL.skip (d := 111) Q0 Q0 Q0 Q0 ?_
                   refine WL.p Q0 (Yl.pickT Q0 Q0) ?_
                   refine WL.next ?_
                   refine WC.condT Q0 ?_
                   refine WC.seq ?_
                   refine Qa ?_
                   refine WL.next ?_
                   refine WC.ret ?_
                   refine At.thenret ?_
                   refine fin1' rfl Q0 ?_
                   refine RetP.mk hs ?_
                   try simp only [hx55, hx56, hx87, hx88, hq89, hq90, hx131, hx132] at h1 h2 h3 h4 h5 h6 h7 h8 h9 h10 h11 h12
                   all_goals (first | (simp only [hx55, hx56, hx87, hx88, hq89, hq90, hx131, hx132]; done) | (exfalso; omega) | simp_all)
                  ·
                   replace h12 := not_eq_false h12
                   replace h12 := of_decide_eq_true h12
                   refine WL.run (d := 111) Q0 Q0 ?_
                   refine WL.p Q0 (Yl.loadAB agg41 Q0 hs Q1 Q0 Q0) ?_
                   refine WL.run (d := 111) Q0 Q0 ?_
                   refine WL.p Q0 (Yl.loadAB agg41 Q0 hs Q1 Q0 Q0) ?_
                   refine WL.run (d := 111) Q0 Q0 ?_
                   refine WL.callp hs Q0 (Yc.func Q0 fn18) (c_laws_eqResponse _ _ _) ?_
                   clear hs; intro w hs
                   refine WL.run (d := 111) Q0 Q0 ?_
                   refine WL.p Q0 (Yl.not Q0) ?_
                   refine WL.p Q0 (Yl.pickF Q0 Q0) ?_
                   refine WL.next ?_
                   refine WC.condS Q0 (fun h13 => ?_) (fun h13 => ?_)
                   ·
                    replace h13 := not_eq_true h13
                    replace h13 := of_decide_eq_false h13
                    refine WC.seq ?_
                    refine Qa ?_
                    refine WL.next ?_
                    refine WC.ret ?_
                    refine At.thenret ?_
                    refine fin1' rfl Q0 ?_
                    refine RetP.mk hs ?_
                    try simp only [hx55, hx56, hx87, hx88, hq89, hq90, hx131, hx132] at h1 h2 h3 h4 h5 h6 h7 h8 h9 h10 h11 h12 h13
                    all_goals (first | (simp only [hx55, hx56, hx87, hx88, hq89, hq90, hx131, hx132]; done) | (exfalso; omega) | simp_all)
                   ·
                    replace h13 := not_eq_false h13
                    replace h13 := of_decide_eq_true h13
                    refine WC.skipn ?_
                    refine WC.seq ?_
                    refine Qa ?_
                    refine WL.next ?_
                    refine WC.seq ?_
                    refine WL.p Q0 (Yl.loadAB agg39 Q0 hs Q1 Q0 Q0) ?_
                    refine Qm ?_
                    refine WL.callp hs Q0 (Yc.func Q0 fn20) (calls_conv (congrArg (fun z => ([z, _] : List Value).toArray) (show (.agg #[Sl.v a90.servers, Sl.v a90.cache.entries, Sl.v a90.log, I a90.now] : Value) = .agg #[Sl.v x87.servers, Sl.v x87.cache.entries, Sl.v x87.log, I x87.now] from congrArg (fun l => Value.agg l.toArray) he90)) (c_laws_heldNet a90 _ x87.lg _ (hs.okow (x := a90) (F := F90) Q1) (by first | assumption | omega) (by first | omega | (try simp only [hx55, hx56, hx87, hx88, hx131, hx132]); (have := costoNet_le aN.lg; have := costFetch_le aN.lg aTop aA aGuess; omega)) (by exact hq90))) ?_
                    clear hs; intro w hs
                    refine Qa ?_
                    refine WL.next ?_
                    refine WC.seq' ?_
                    refine WC.seq ?_
                    refine Qm ?_
                    refine WL.p Q0 (Yl.lss Q0 Q0) ?_
                    refine WL.next ?_
                    refine WC.condS Q0 (fun h14 => ?_) (fun h14 => ?_)
                    ·
                     replace h14 := of_decide_eq_true h14
                     refine WC.seq ?_
                     refine Qa ?_
                     refine WL.next ?_
                     refine WC.ret ?_
                     refine At.thenret ?_
                     refine fin1' rfl Q0 ?_
                     refine RetP.mk hs ?_
                     try simp only [hx55, hx56, hx87, hx88, hq89, hq90, hx131, hx132] at h1 h2 h3 h4 h5 h6 h7 h8 h9 h10 h11 h12 h13 h14
                     all_goals (first | (simp only [hx55, hx56, hx87, hx88, hq89, hq90, hx131, hx132]; done) | (exfalso; omega) | simp_all)
                    ·
                     replace h14 := of_decide_eq_false h14
                     refine WC.skipn ?_
                     refine WC.seq' ?_
                     refine WC.seq ?_
                     refine Qm ?_
                     refine Qm ?_
                     refine WL.p Q0 (Yl.nei Q0 Q0) ?_
                     refine WL.next ?_
                     refine WC.condS Q0 (fun h15 => ?_) (fun h15 => ?_)
                     ·
                      replace h15 := not_eq_true h15
                      replace h15 := of_decide_eq_false h15
                      refine WC.seq ?_
                      refine Qa ?_
                      refine WL.next ?_
                      refine WC.ret ?_
                      refine At.thenret ?_
                      refine fin1' rfl Q0 ?_
                      refine RetP.mk hs ?_
                      try simp only [hx55, hx56, hx87, hx88, hq89, hq90, hx131, hx132] at h1 h2 h3 h4 h5 h6 h7 h8 h9 h10 h11 h12 h13 h14 h15
                      all_goals (first | (simp only [hx55, hx56, hx87, hx88, hq89, hq90, hx131, hx132]; done) | (exfalso; omega) | simp_all)
                     ·
                      replace h15 := not_eq_false h15
                      replace h15 := of_decide_eq_true h15
                      refine WC.skipn ?_
                      refine WC.seq ?_
                      refine Qa ?_
                      refine WL.next ?_
                      refine WC.ret ?_
                      refine fin1' rfl Q0 ?_
                      refine RetP.mk hs ?_
                      rfl
                 ·
                  refine WI.alq 10 Q0 hs zt39 ?_
                  clear hs; intro b134 w hs
                  refine WA.callq 6 Q0 hs (Yc.func Q0 fn16) (c_impl_FetchNow _ _ _ _ _ (hs.okow (x := x131) (F := F131) Q1) (Ph.old h_aTop hs) (Ph.old h_aA hs) trivial (by rw [hx131]; simp only [TNet.size, lsz] at *; omega) (by rw [hx131]; simp only [TNet.size, lsz] at *; omega) (by have e9 := congrArg (fun z => z.log.length) hx131; simp only [PNet.lg] at e9; simp only [TNet.size, lsz, PNet.lg] at *; omega) (by first | assumption | exact Sat.cellm hs (by assumption))) ?_
                  have hs0 := hs; clear hs; intro v w hb hR hs; clear hs
                  obtain ⟨x135, rfl, hx135, hf135⟩ := hR
                  obtain ⟨F135, hs⟩ := hf135.sat hs0 hb; clear hs0 hf135
                  refine WA.pq 7 Q0 hs (fun w hs => Yl.move Q0) ?_
                  refine WA.pq 8 Q0 hs (fun w hs => Yl.extract Q0 Q0) ?_
                  refine WA.pq 9 Q0 hs (fun w hs => Yl.extract Q0 Q0) ?_
                  refine WA.stq 12 Q0 hs szf39 ?_
                  clear hs; intro w hs
                  refine WA.stq 13 Q0 hs szf41 ?_
                  clear hs; intro w hs
                  refine WA.donen Q6 ?_
                  refine WC.seq' ?_
                  refine WC.seq ?_
                  refine WL.p Q0 (Yl.loadAB agg39 Q0 hs Q1 Q0 Q0) ?_
                  refine WL.p Q0 (Yl.loadAB agg39 Q0 hs Q1 Q0 Q0) ?_
                  refine WL.callp hs Q0 (Yc.func Q0 fn17) (c_laws_eqNet _ _ _ (hs.okow (x := x135) (F := F135) Q1) ⟨(hs.okow (x := x55) (F := F55) Q1).servers, ⟨(hs.okow (x := x55) (F := F55) Q1).cache.entries⟩, (hs.okow (x := x55) (F := F55) Q1).log, (hs.okow (x := x55) (F := F55) Q1).now⟩) ?_
                  clear hs; intro w hs
                  refine WL.p Q0 (Yl.not Q0) ?_
                  refine Qm ?_
                  refine WL.split (d := 111) Q0 (fun h12 => ?_) (fun h12 => ?_)
                  ·
                   replace h12 := not_eq_true h12
                   replace h12 := of_decide_eq_false h12
                   refine WL.skip (d := 111) Q0 Q0 Q0 Q0 ?_
                   refine WL.skip (d := 111) Q0 Q0 Q0 Q0 ?_
                   refine WL.skip (d := 111) Q0 Q0 Q0 Q0 ?_
                   refine WL.skip (d := 111) Q0 Q0 Q0 Q0 ?_
                   refine WL.p Q0 (Yl.pickT Q0 Q0) ?_
                   refine WL.next ?_
                   refine WC.condT Q0 ?_
                   refine WC.seq ?_
                   refine Qa ?_
                   refine WL.next ?_
                   refine WC.ret ?_
                   refine At.thenret ?_
                   refine fin1' rfl Q0 ?_
                   refine RetP.mk hs ?_
                   try simp only [hx55, hx56, hx87, hx88, hq89, hq90, hx131, hx135] at h1 h2 h3 h4 h5 h6 h7 h8 h9 h10 h11 h12
                   all_goals (first | (simp only [hx55, hx56, hx87, hx88, hq89, hq90, hx131, hx135]; done) | (exfalso; omega) | simp_all)
                  ·
                   replace h12 := not_eq_false h12
                   replace h12 := of_decide_eq_true h12
                   refine WL.run (d := 111) Q0 Q0 ?_
                   refine WL.p Q0 (Yl.loadAB agg41 Q0 hs Q1 Q0 Q0) ?_
                   refine WL.run (d := 111) Q0 Q0 ?_
                   refine WL.p Q0 (Yl.loadAB agg41 Q0 hs Q1 Q0 Q0) ?_
                   refine WL.run (d := 111) Q0 Q0 ?_
                   refine WL.callp hs Q0 (Yc.func Q0 fn18) (c_laws_eqResponse _ _ _) ?_
                   clear hs; intro w hs
                   refine WL.run (d := 111) Q0 Q0 ?_
                   refine WL.p Q0 (Yl.not Q0) ?_
                   refine WL.p Q0 (Yl.pickF Q0 Q0) ?_
                   refine WL.next ?_
                   refine WC.condS Q0 (fun h13 => ?_) (fun h13 => ?_)
                   ·
                    replace h13 := not_eq_true h13
                    replace h13 := of_decide_eq_false h13
                    refine WC.seq ?_
                    refine Qa ?_
                    refine WL.next ?_
                    refine WC.ret ?_
                    refine At.thenret ?_
                    refine fin1' rfl Q0 ?_
                    refine RetP.mk hs ?_
                    try simp only [hx55, hx56, hx87, hx88, hq89, hq90, hx131, hx135] at h1 h2 h3 h4 h5 h6 h7 h8 h9 h10 h11 h12 h13
                    all_goals (first | (simp only [hx55, hx56, hx87, hx88, hq89, hq90, hx131, hx135]; done) | (exfalso; omega) | simp_all)
                   ·
                    replace h13 := not_eq_false h13
                    replace h13 := of_decide_eq_true h13
                    refine WC.skipn ?_
                    refine WC.seq ?_
                    refine Qa ?_
                    refine WL.next ?_
                    refine WC.seq ?_
                    refine WL.p Q0 (Yl.loadAB agg39 Q0 hs Q1 Q0 Q0) ?_
                    refine Qm ?_
                    refine WL.callp hs Q0 (Yc.func Q0 fn20) (calls_conv (congrArg (fun z => ([z, _] : List Value).toArray) (show (.agg #[Sl.v a90.servers, Sl.v a90.cache.entries, Sl.v a90.log, I a90.now] : Value) = .agg #[Sl.v x87.servers, Sl.v x87.cache.entries, Sl.v x87.log, I x87.now] from congrArg (fun l => Value.agg l.toArray) he90)) (c_laws_heldNet a90 _ x87.lg _ (hs.okow (x := a90) (F := F90) Q1) (by first | assumption | omega) (by first | omega | (try simp only [hx55, hx56, hx87, hx88, hx131, hx135]); (have := costoNet_le aN.lg; have := costFetch_le aN.lg aTop aA aGuess; omega)) (by exact hq90))) ?_
                    clear hs; intro w hs
                    refine Qa ?_
                    refine WL.next ?_
                    refine WC.seq' ?_
                    refine WC.seq ?_
                    refine Qm ?_
                    refine WL.p Q0 (Yl.lss Q0 Q0) ?_
                    refine WL.next ?_
                    refine WC.condS Q0 (fun h14 => ?_) (fun h14 => ?_)
                    ·
                     replace h14 := of_decide_eq_true h14
                     refine WC.seq ?_
                     refine Qa ?_
                     refine WL.next ?_
                     refine WC.ret ?_
                     refine At.thenret ?_
                     refine fin1' rfl Q0 ?_
                     refine RetP.mk hs ?_
                     try simp only [hx55, hx56, hx87, hx88, hq89, hq90, hx131, hx135] at h1 h2 h3 h4 h5 h6 h7 h8 h9 h10 h11 h12 h13 h14
                     all_goals (first | (simp only [hx55, hx56, hx87, hx88, hq89, hq90, hx131, hx135]; done) | (exfalso; omega) | simp_all)
                    ·
                     replace h14 := of_decide_eq_false h14
                     refine WC.skipn ?_
                     refine WC.seq' ?_
                     refine WC.seq ?_
                     refine Qm ?_
                     refine Qm ?_
                     refine WL.p Q0 (Yl.nei Q0 Q0) ?_
                     refine WL.next ?_
                     refine WC.condS Q0 (fun h15 => ?_) (fun h15 => ?_)
                     ·
                      replace h15 := not_eq_true h15
                      replace h15 := of_decide_eq_false h15
                      refine WC.seq ?_
                      refine Qa ?_
                      refine WL.next ?_
                      refine WC.ret ?_
                      refine At.thenret ?_
                      refine fin1' rfl Q0 ?_
                      refine RetP.mk hs ?_
                      try simp only [hx55, hx56, hx87, hx88, hq89, hq90, hx131, hx135] at h1 h2 h3 h4 h5 h6 h7 h8 h9 h10 h11 h12 h13 h14 h15
                      all_goals (first | (simp only [hx55, hx56, hx87, hx88, hq89, hq90, hx131, hx135]; done) | (exfalso; omega) | simp_all)
                     ·
                      replace h15 := not_eq_false h15
                      replace h15 := of_decide_eq_true h15
                      refine WC.skipn ?_
                      refine WC.seq ?_
                      refine Qa ?_
                      refine WL.next ?_
                      refine WC.ret ?_
                      refine fin1' rfl Q0 ?_
                      refine RetP.mk hs ?_
                      rfl
                ·
                 refine WI.alq 10 Q0 hs zt39 ?_
                 clear hs; intro b136 w hs
                 refine WA.callp2 (i := 4) hs (fun _ hs => hs.only Q2) Q6 Q0 Q0 (Yc.func Q0 fn15) (c_laws_toAddr _ _) ?_
                 clear hs; intro w hs
                 refine WA.callq 6 Q0 hs (Yc.func Q0 fn16) (c_impl_FetchNow _ _ _ _ _ (hs.okow (x := x131) (F := F131) Q1) (Ph.old h_aTop hs) (Ph.old h_aA hs) trivial (by rw [hx131]; simp only [TNet.size, lsz] at *; omega) (by rw [hx131]; simp only [TNet.size, lsz] at *; omega) (by have e9 := congrArg (fun z => z.log.length) hx131; simp only [PNet.lg] at e9; simp only [TNet.size, lsz, PNet.lg] at *; omega) (by first | assumption | exact Sat.cellm hs (by assumption))) ?_
                 have hs0 := hs; clear hs; intro v w hb hR hs; clear hs
                 obtain ⟨x137, rfl, hx137, hf137⟩ := hR
                 obtain ⟨F137, hs⟩ := hf137.sat hs0 hb; clear hs0 hf137
                 refine WA.pq 7 Q0 hs (fun w hs => Yl.move Q0) ?_
                 refine WA.pq 8 Q0 hs (fun w hs => Yl.extract Q0 Q0) ?_
                 refine WA.pq 9 Q0 hs (fun w hs => Yl.extract Q0 Q0) ?_
                 refine WA.stq 12 Q0 hs szf39 ?_
                 clear hs; intro w hs
                 refine WA.stq 13 Q0 hs szf41 ?_
                 clear hs; intro w hs
                 refine WA.donen Q6 ?_
                 refine WC.seq' ?_
                 refine WC.seq ?_
                 refine WL.p Q0 (Yl.loadAB agg39 Q0 hs Q1 Q0 Q0) ?_
                 refine WL.p Q0 (Yl.loadAB agg39 Q0 hs Q1 Q0 Q0) ?_
                 refine WL.callp hs Q0 (Yc.func Q0 fn17) (c_laws_eqNet _ _ _ (hs.okow (x := x137) (F := F137) Q1) ⟨(hs.okow (x := x55) (F := F55) Q1).servers, ⟨(hs.okow (x := x55) (F := F55) Q1).cache.entries⟩, (hs.okow (x := x55) (F := F55) Q1).log, (hs.okow (x := x55) (F := F55) Q1).now⟩) ?_
                 clear hs; intro w hs
                 refine WL.p Q0 (Yl.not Q0) ?_
                 refine Qm ?_
                 refine WL.split (d := 111) Q0 (fun h12 => ?_) (fun h12 => ?_)
                 ·
                  replace h12 := not_eq_true h12
                  replace h12 := of_decide_eq_false h12
                  refine WL.skip (d := 111) Q0 Q0 Q0 Q0 ?_
                  refine WL.skip (d := 111) Q0 Q0 Q0 Q0 ?_
                  refine WL.skip (d := 111) Q0 Q0 Q0 Q0 ?_
                  refine WL.skip (d := 111) Q0 Q0 Q0 Q0 ?_
                  refine WL.p Q0 (Yl.pickT Q0 Q0) ?_
                  refine WL.next ?_
                  refine WC.condT Q0 ?_
                  refine WC.seq ?_
                  refine Qa ?_
                  refine WL.next ?_
                  refine WC.ret ?_
                  refine At.thenret ?_
                  refine fin1' rfl Q0 ?_
                  refine RetP.mk hs ?_
                  try simp only [hx55, hx56, hx87, hx88, hq89, hq90, hx131, hx137] at h1 h2 h3 h4 h5 h6 h7 h8 h9 h10 h11 h12
                  all_goals (first | (simp only [hx55, hx56, hx87, hx88, hq89, hq90, hx131, hx137]; done) | (exfalso; omega) | simp_all)
                 ·
                  replace h12 := not_eq_false h12
                  replace h12 := of_decide_eq_true h12
                  refine WL.run (d := 111) Q0 Q0 ?_
                  refine WL.p Q0 (Yl.loadAB agg41 Q0 hs Q1 Q0 Q0) ?_
                  refine WL.run (d := 111) Q0 Q0 ?_
                  refine WL.p Q0 (Yl.loadAB agg41 Q0 hs Q1 Q0 Q0) ?_
                  refine WL.run (d := 111) Q0 Q0 ?_
                  refine WL.callp hs Q0 (Yc.func Q0 fn18) (c_laws_eqResponse _ _ _) ?_
                  clear hs; intro w hs
                  refine WL.run (d := 111) Q0 Q0 ?_
                  refine WL.p Q0 (Yl.not Q0) ?_
                  refine WL.p Q0 (Yl.pickF Q0 Q0) ?_
                  refine WL.next ?_
                  refine WC.condS Q0 (fun h13 => ?_) (fun h13 => ?_)
                  ·
                   replace h13 := not_eq_true h13
                   replace h13 := of_decide_eq_false h13
                   refine WC.seq ?_
                   refine Qa ?_
                   refine WL.next ?_
                   refine WC.ret ?_
                   refine At.thenret ?_
                   refine fin1' rfl Q0 ?_
                   refine RetP.mk hs ?_
                   try simp only [hx55, hx56, hx87, hx88, hq89, hq90, hx131, hx137] at h1 h2 h3 h4 h5 h6 h7 h8 h9 h10 h11 h12 h13
                   all_goals (first | (simp only [hx55, hx56, hx87, hx88, hq89, hq90, hx131, hx137]; done) | (exfalso; omega) | simp_all)
                  ·
                   replace h13 := not_eq_false h13
                   replace h13 := of_decide_eq_true h13
                   refine WC.skipn ?_
                   refine WC.seq ?_
                   refine Qa ?_
                   refine WL.next ?_
                   refine WC.seq ?_
                   refine WL.p Q0 (Yl.loadAB agg39 Q0 hs Q1 Q0 Q0) ?_
                   refine Qm ?_
                   refine WL.callp hs Q0 (Yc.func Q0 fn20) (calls_conv (congrArg (fun z => ([z, _] : List Value).toArray) (show (.agg #[Sl.v a90.servers, Sl.v a90.cache.entries, Sl.v a90.log, I a90.now] : Value) = .agg #[Sl.v x87.servers, Sl.v x87.cache.entries, Sl.v x87.log, I x87.now] from congrArg (fun l => Value.agg l.toArray) he90)) (c_laws_heldNet a90 _ x87.lg _ (hs.okow (x := a90) (F := F90) Q1) (by first | assumption | omega) (by first | omega | (try simp only [hx55, hx56, hx87, hx88, hx131, hx137]); (have := costoNet_le aN.lg; have := costFetch_le aN.lg aTop aA aGuess; omega)) (by exact hq90))) ?_
                   clear hs; intro w hs
                   refine Qa ?_
                   refine WL.next ?_
                   refine WC.seq' ?_
                   refine WC.seq ?_
                   refine Qm ?_
                   refine WL.p Q0 (Yl.lss Q0 Q0) ?_
                   refine WL.next ?_
                   refine WC.condS Q0 (fun h14 => ?_) (fun h14 => ?_)
                   ·
                    replace h14 := of_decide_eq_true h14
                    refine WC.seq ?_
                    refine Qa ?_
                    refine WL.next ?_
                    refine WC.ret ?_
                    refine At.thenret ?_
                    refine fin1' rfl Q0 ?_
                    refine RetP.mk hs ?_
                    try simp only [hx55, hx56, hx87, hx88, hq89, hq90, hx131, hx137] at h1 h2 h3 h4 h5 h6 h7 h8 h9 h10 h11 h12 h13 h14
                    all_goals (first | (simp only [hx55, hx56, hx87, hx88, hq89, hq90, hx131, hx137]; done) | (exfalso; omega) | simp_all)
                   ·
                    replace h14 := of_decide_eq_false h14
                    refine WC.skipn ?_
                    refine WC.seq' ?_
                    refine WC.seq ?_
                    refine Qm ?_
                    refine Qm ?_
                    refine WL.p Q0 (Yl.nei Q0 Q0) ?_
                    refine WL.next ?_
                    refine WC.condS Q0 (fun h15 => ?_) (fun h15 => ?_)
                    ·
                     replace h15 := not_eq_true h15
                     replace h15 := of_decide_eq_false h15
                     refine WC.seq ?_
                     refine Qa ?_
                     refine WL.next ?_
                     refine WC.ret ?_
                     refine At.thenret ?_
                     refine fin1' rfl Q0 ?_
                     refine RetP.mk hs ?_
                     try simp only [hx55, hx56, hx87, hx88, hq89, hq90, hx131, hx137] at h1 h2 h3 h4 h5 h6 h7 h8 h9 h10 h11 h12 h13 h14 h15
                     all_goals (first | (simp only [hx55, hx56, hx87, hx88, hq89, hq90, hx131, hx137]; done) | (exfalso; omega) | simp_all)
                    ·
                     replace h15 := not_eq_false h15
                     replace h15 := of_decide_eq_true h15
                     refine WC.skipn ?_
                     refine WC.seq ?_
                     refine Qa ?_
                     refine WL.next ?_
                     refine WC.ret ?_
                     refine fin1' rfl Q0 ?_
                     refine RetP.mk hs ?_
                     rfl
               ·
                refine WI.alq 10 Q0 hs zt39 ?_
                clear hs; intro b138 w hs
                refine WA.callq 1 Q0 hs (Yc.func Q0 fn14) (c_laws_toNet _ _ (Ph.old h_aN hs) Q7) ?_
                have hs0 := hs; clear hs; intro v w hb hR hs; clear hs
                obtain ⟨x139, rfl, hx139, hf139⟩ := hR
                obtain ⟨F139, hs⟩ := hf139.sat hs0 hb; clear hs0 hf139
                refine WA.callp2 (i := 4) hs (fun _ hs => hs.only Q2) Q6 Q0 Q0 (Yc.func Q0 fn15) (c_laws_toAddr _ _) ?_
                clear hs; intro w hs
                refine WA.callq 6 Q0 hs (Yc.func Q0 fn16) (c_impl_FetchNow _ _ _ _ _ (hs.okow (x := x139) (F := F139) Q1) (Ph.old h_aTop hs) (Ph.old h_aA hs) trivial (by rw [hx139]; simp only [TNet.size, lsz] at *; omega) (by rw [hx139]; simp only [TNet.size, lsz] at *; omega) (by have e9 := congrArg (fun z => z.log.length) hx139; simp only [PNet.lg] at e9; simp only [TNet.size, lsz, PNet.lg] at *; omega) (by first | assumption | exact Sat.cellm hs (by assumption))) ?_
                have hs0 := hs; clear hs; intro v w hb hR hs; clear hs
                obtain ⟨x140, rfl, hx140, hf140⟩ := hR
                obtain ⟨F140, hs⟩ := hf140.sat hs0 hb; clear hs0 hf140
                refine WA.pq 7 Q0 hs (fun w hs => Yl.move Q0) ?_
                refine WA.pq 8 Q0 hs (fun w hs => Yl.extract Q0 Q0) ?_
                refine WA.pq 9 Q0 hs (fun w hs => Yl.extract Q0 Q0) ?_
                refine WA.stq 12 Q0 hs szf39 ?_
                clear hs; intro w hs
                refine WA.stq 13 Q0 hs szf41 ?_
                clear hs; intro w hs
                refine WA.donen Q6 ?_
                refine WC.seq' ?_
                refine WC.seq ?_
                refine WL.p Q0 (Yl.loadAB agg39 Q0 hs Q1 Q0 Q0) ?_
                refine WL.p Q0 (Yl.loadAB agg39 Q0 hs Q1 Q0 Q0) ?_
                refine WL.callp hs Q0 (Yc.func Q0 fn17) (c_laws_eqNet _ _ _ (hs.okow (x := x140) (F := F140) Q1) ⟨(hs.okow (x := x55) (F := F55) Q1).servers, ⟨(hs.okow (x := x55) (F := F55) Q1).cache.entries⟩, (hs.okow (x := x55) (F := F55) Q1).log, (hs.okow (x := x55) (F := F55) Q1).now⟩) ?_
                clear hs; intro w hs
                refine WL.p Q0 (Yl.not Q0) ?_
                refine Qm ?_
                refine WL.split (d := 111) Q0 (fun h12 => ?_) (fun h12 => ?_)
                ·
                 replace h12 := not_eq_true h12
                 replace h12 := of_decide_eq_false h12
                 refine WL.skip (d := 111) Q0 Q0 Q0 Q0 ?_
                 refine WL.skip (d := 111) Q0 Q0 Q0 Q0 ?_
                 refine WL.skip (d := 111) Q0 Q0 Q0 Q0 ?_
                 refine WL.skip (d := 111) Q0 Q0 Q0 Q0 ?_
                 refine WL.p Q0 (Yl.pickT Q0 Q0) ?_
                 refine WL.next ?_
                 refine WC.condT Q0 ?_
                 refine WC.seq ?_
                 refine Qa ?_
                 refine WL.next ?_
                 refine WC.ret ?_
                 refine At.thenret ?_
                 refine fin1' rfl Q0 ?_
                 refine RetP.mk hs ?_
                 try simp only [hx55, hx56, hx87, hx88, hq89, hq90, hx139, hx140] at h1 h2 h3 h4 h5 h6 h7 h8 h9 h10 h11 h12
                 all_goals (first | (simp only [hx55, hx56, hx87, hx88, hq89, hq90, hx139, hx140]; done) | (exfalso; omega) | simp_all)
                ·
                 replace h12 := not_eq_false h12
                 replace h12 := of_decide_eq_true h12
                 refine WL.run (d := 111) Q0 Q0 ?_
                 refine WL.p Q0 (Yl.loadAB agg41 Q0 hs Q1 Q0 Q0) ?_
                 refine WL.run (d := 111) Q0 Q0 ?_
                 refine WL.p Q0 (Yl.loadAB agg41 Q0 hs Q1 Q0 Q0) ?_
                 refine WL.run (d := 111) Q0 Q0 ?_
                 refine WL.callp hs Q0 (Yc.func Q0 fn18) (c_laws_eqResponse _ _ _) ?_
                 clear hs; intro w hs
                 refine WL.run (d := 111) Q0 Q0 ?_
                 refine WL.p Q0 (Yl.not Q0) ?_
                 refine WL.p Q0 (Yl.pickF Q0 Q0) ?_
                 refine WL.next ?_
                 refine WC.condS Q0 (fun h13 => ?_) (fun h13 => ?_)
                 ·
                  replace h13 := not_eq_true h13
                  replace h13 := of_decide_eq_false h13
                  refine WC.seq ?_
                  refine Qa ?_
                  refine WL.next ?_
                  refine WC.ret ?_
                  refine At.thenret ?_
                  refine fin1' rfl Q0 ?_
                  refine RetP.mk hs ?_
                  try simp only [hx55, hx56, hx87, hx88, hq89, hq90, hx139, hx140] at h1 h2 h3 h4 h5 h6 h7 h8 h9 h10 h11 h12 h13
                  all_goals (first | (simp only [hx55, hx56, hx87, hx88, hq89, hq90, hx139, hx140]; done) | (exfalso; omega) | simp_all)
                 ·
                  replace h13 := not_eq_false h13
                  replace h13 := of_decide_eq_true h13
                  refine WC.skipn ?_
                  refine WC.seq ?_
                  refine Qa ?_
                  refine WL.next ?_
                  refine WC.seq ?_
                  refine WL.p Q0 (Yl.loadAB agg39 Q0 hs Q1 Q0 Q0) ?_
                  refine Qm ?_
                  refine WL.callp hs Q0 (Yc.func Q0 fn20) (calls_conv (congrArg (fun z => ([z, _] : List Value).toArray) (show (.agg #[Sl.v a90.servers, Sl.v a90.cache.entries, Sl.v a90.log, I a90.now] : Value) = .agg #[Sl.v x87.servers, Sl.v x87.cache.entries, Sl.v x87.log, I x87.now] from congrArg (fun l => Value.agg l.toArray) he90)) (c_laws_heldNet a90 _ x87.lg _ (hs.okow (x := a90) (F := F90) Q1) (by first | assumption | omega) (by first | omega | (try simp only [hx55, hx56, hx87, hx88, hx139, hx140]); (have := costoNet_le aN.lg; have := costFetch_le aN.lg aTop aA aGuess; omega)) (by exact hq90))) ?_
                  clear hs; intro w hs
                  refine Qa ?_
                  refine WL.next ?_
                  refine WC.seq' ?_
                  refine WC.seq ?_
                  refine Qm ?_
                  refine WL.p Q0 (Yl.lss Q0 Q0) ?_
                  refine WL.next ?_
                  refine WC.condS Q0 (fun h14 => ?_) (fun h14 => ?_)
                  ·
                   replace h14 := of_decide_eq_true h14
                   refine WC.seq ?_
                   refine Qa ?_
                   refine WL.next ?_
                   refine WC.ret ?_
                   refine At.thenret ?_
                   refine fin1' rfl Q0 ?_
                   refine RetP.mk hs ?_
                   try simp only [hx55, hx56, hx87, hx88, hq89, hq90, hx139, hx140] at h1 h2 h3 h4 h5 h6 h7 h8 h9 h10 h11 h12 h13 h14
                   all_goals (first | (simp only [hx55, hx56, hx87, hx88, hq89, hq90, hx139, hx140]; done) | (exfalso; omega) | simp_all)
                  ·
                   replace h14 := of_decide_eq_false h14
                   refine WC.skipn ?_
                   refine WC.seq' ?_
                   refine WC.seq ?_
                   refine Qm ?_
                   refine Qm ?_
                   refine WL.p Q0 (Yl.nei Q0 Q0) ?_
                   refine WL.next ?_
                   refine WC.condS Q0 (fun h15 => ?_) (fun h15 => ?_)
                   ·
                    replace h15 := not_eq_true h15
                    replace h15 := of_decide_eq_false h15
                    refine WC.seq ?_
                    refine Qa ?_
                    refine WL.next ?_
                    refine WC.ret ?_
                    refine At.thenret ?_
                    refine fin1' rfl Q0 ?_
                    refine RetP.mk hs ?_
                    try simp only [hx55, hx56, hx87, hx88, hq89, hq90, hx139, hx140] at h1 h2 h3 h4 h5 h6 h7 h8 h9 h10 h11 h12 h13 h14 h15
                    all_goals (first | (simp only [hx55, hx56, hx87, hx88, hq89, hq90, hx139, hx140]; done) | (exfalso; omega) | simp_all)
                   ·
                    replace h15 := not_eq_false h15
                    replace h15 := of_decide_eq_true h15
                    refine WC.skipn ?_
                    refine WC.seq ?_
                    refine Qa ?_
                    refine WL.next ?_
                    refine WC.ret ?_
                    refine fin1' rfl Q0 ?_
                    refine RetP.mk hs ?_
                    rfl

end Go.Sw
