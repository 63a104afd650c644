/- Walks: what each function of the program returns, for every input. Printed by gen.py. -/
import Derived.Test.YtppjnohcfljmoaaGreatDoorFx
set_option linter.all false
namespace Go.Sw
open Go Go.RowKit Go.Proofs

theorem c_laws_szResponse (a : TResponse) (left : Int) (w : World) (h_a : Ph.ok w a) (hl0 : 0 ≤ left) (hl1 : left ≤ 1048576) : Calls Tryz.prog 25 [.agg #[I a.status, I a.kind, S a.body, I a.age, Bo a.shares, S a.policy], I left].toArray w (RetP w (I (lessN left a.size))) := by
 have hb1 := h_a.body; have hb2 := h_a.policy; simp only [Ph.ok, WfS] at hb1 hb2
 refine enterN 20 Tryz.func25 rfl rfl rfl ?_
 have hs := Sat.start w
 refine WC.seq ?_
 refine WL.r Q0 (Yr.box hs Q0 Q0) ?_
 clear hs; rintro _ w ⟨b1, rfl, hb, hs⟩; clear hb
 refine Qa ?_
 refine WL.next ?_
 refine WC.seq ?_
 refine Qm ?_
 refine WL.p Q0 (Yl.fieldAddr fa58_2 Q0) ?_
 refine WL.p Q0 (Yl.loadB sca9 Q0 hs Q1 Q0) ?_
 refine WL.p Q0 (Yl.len_str str9 Q0) ?_
 refine WL.p Q0 (Yl.sub_ Q0 Q0 Q7) ?_
 refine Qa ?_
 refine WL.next ?_
 refine WC.seq' ?_
 refine WC.seq ?_
 refine Qm ?_
 refine WL.p Q0 (Yl.lss Q0 Q0) ?_
 refine WL.next ?_
 refine WC.condS Q0 (fun h1 => ?_) (fun h1 => ?_)
 ·
  replace h1 := of_decide_eq_true h1
  refine WC.seq ?_
  refine Qa ?_
  refine WL.next ?_
  refine WC.ret ?_
  refine At.thenret ?_
  refine fin1' rfl Q0 ?_
  refine RetP.mk hs ?_
  first
   | (rw [lessN_lt (left := left) (n := a.size) (by simp only [TResponse.size]; omega)]; done)
   | (rw [lessN_ge (left := left) (n := a.size) (by simp only [TResponse.size]; omega)]; try exact congrArg I (by simp only [TResponse.size] <;> omega))
 ·
  replace h1 := of_decide_eq_false h1
  refine WC.skipn ?_
  refine WC.seq ?_
  refine Qm ?_
  refine WL.p Q0 (Yl.fieldAddr fa58_5 Q0) ?_
  refine WL.p Q0 (Yl.loadB sca9 Q0 hs Q1 Q0) ?_
  refine WL.p Q0 (Yl.len_str str9 Q0) ?_
  refine WL.p Q0 (Yl.sub_ Q0 Q0 Q7) ?_
  refine Qa ?_
  refine WL.next ?_
  refine WC.seq' ?_
  refine WC.seq ?_
  refine Qm ?_
  refine WL.p Q0 (Yl.lss Q0 Q0) ?_
  refine WL.next ?_
  refine WC.condS Q0 (fun h2 => ?_) (fun h2 => ?_)
  ·
   replace h2 := of_decide_eq_true h2
   refine WC.seq ?_
   refine Qa ?_
   refine WL.next ?_
   refine WC.ret ?_
   refine At.thenret ?_
   refine fin1' rfl Q0 ?_
   refine RetP.mk hs ?_
   first
    | (rw [lessN_lt (left := left) (n := a.size) (by simp only [TResponse.size]; omega)]; done)
    | (rw [lessN_ge (left := left) (n := a.size) (by simp only [TResponse.size]; omega)]; try exact congrArg I (by simp only [TResponse.size] <;> omega))
  ·
   replace h2 := of_decide_eq_false h2
   refine WC.skipn ?_
   refine WC.seq ?_
   refine Qm ?_
   refine Qa ?_
   refine WL.next ?_
   refine WC.ret ?_
   refine fin1' rfl Q0 ?_
   refine RetP.mk hs ?_
   first
    | (rw [lessN_lt (left := left) (n := a.size) (by simp only [TResponse.size]; omega)]; done)
    | (rw [lessN_ge (left := left) (n := a.size) (by simp only [TResponse.size]; omega)]; try exact congrArg I (by simp only [TResponse.size] <;> omega))

theorem c_laws_szFile (a : TFile) (left : Int) (w : World) (h_a : Ph.ok w a) (hl0 : 0 ≤ left) (hl1 : left ≤ 1048576) : Calls Tryz.prog 213 [.agg #[S a.path, I a.response.status, I a.response.kind, S a.response.body, I a.response.age, Bo a.response.shares, S a.response.policy], I left].toArray w (RetP w (I (lessN left a.size))) := by
 have hb0 : a.path.length ≤ 9223372036854775807 := h_a.path
 refine enterN 19 Tryz.func213 rfl rfl rfl ?_
 have hs := Sat.start w
 refine WC.seq ?_
 refine WL.r Q0 (Yr.box hs Q0 Q0) ?_
 clear hs; rintro _ w ⟨b1, rfl, hb, hs⟩; clear hb
 refine Qa ?_
 refine WL.next ?_
 refine WC.seq ?_
 refine Qm ?_
 refine WL.p Q0 (Yl.fieldAddr fa270_0 Q0) ?_
 refine WL.p Q0 (Yl.loadB sca9 Q0 hs Q1 Q0) ?_
 refine WL.p Q0 (Yl.len_str str9 Q0) ?_
 refine WL.p Q0 (Yl.sub_ Q0 Q0 Q7) ?_
 refine Qa ?_
 refine WL.next ?_
 refine WC.seq' ?_
 refine WC.seq ?_
 refine Qm ?_
 refine WL.p Q0 (Yl.lss Q0 Q0) ?_
 refine WL.next ?_
 refine WC.condS Q0 (fun h1 => ?_) (fun h1 => ?_)
 ·
  replace h1 := of_decide_eq_true h1
  refine WC.seq ?_
  refine Qa ?_
  refine WL.next ?_
  refine WC.ret ?_
  refine At.thenret ?_
  refine fin1' rfl Q0 ?_
  refine RetP.mk hs ?_
  first
   | (rw [lessN_lt (left := left) (n := a.size) (by simp only [TFile.size]; omega)]; done)
   | (rw [lessN_ge (left := left) (n := a.size) (by simp only [TFile.size]; omega)]; try exact congrArg I (by simp only [TFile.size] <;> omega))
 ·
  replace h1 := of_decide_eq_false h1
  refine WC.skipn ?_
  refine WC.seq ?_
  refine WL.p Q0 (Yl.fieldAddr fa270_1 Q0) ?_
  refine WL.p Q0 (Yl.loadAB agg58 Q0 hs Q1 Q0 Q0) ?_
  refine Qm ?_
  refine WL.callp hs Q0 (Yc.func Q0 fn25) (c_laws_szResponse _ _ _ ⟨(Ph.old h_a.response.status hs), (Ph.old h_a.response.kind hs), (Ph.old h_a.response.body hs), (Ph.old h_a.response.age hs), (Ph.old h_a.response.shares hs), (Ph.old h_a.response.policy hs)⟩ (by first | assumption | omega | (simp only [TFile.size]; omega)) (by first | assumption | omega | (simp only [TFile.size]; omega))) ?_
  clear hs; intro w hs
  refine Qa ?_
  refine WL.next ?_
  refine WC.seq' ?_
  refine WC.seq ?_
  refine Qm ?_
  refine WL.p Q0 (Yl.lss Q0 Q0) ?_
  refine WL.next ?_
  refine WC.condS Q0 (fun h2 => ?_) (fun h2 => ?_)
  ·
   replace h2 := lessN_neg (of_decide_eq_true h2)
   refine WC.seq ?_
   refine Qa ?_
   refine WL.next ?_
   refine WC.ret ?_
   refine At.thenret ?_
   refine fin1' rfl Q0 ?_
   refine RetP.mk hs ?_
   first
    | (rw [lessN_lt (left := left) (n := a.size) (by simp only [TFile.size]; omega)]; done)
    | (rw [lessN_ge (left := left) (n := a.size) (by simp only [TFile.size]; omega)]; try exact congrArg I (by simp only [TFile.size] <;> omega))
  ·
   replace h2 := lessN_nn Q7 (of_decide_eq_false h2)
   refine WC.skipn ?_
   refine WC.seq ?_
   refine Qm ?_
   refine Qa ?_
   refine WL.next ?_
   refine WC.ret ?_
   refine fin1' rfl Q0 ?_
   refine RetP.mk hs ?_
   first
    | (rw [lessN_lt (left := left) (n := a.size) (by simp only [TFile.size]; omega)]; done)
    | (rw [lessN_ge (left := left) (n := a.size) (by simp only [TFile.size]; omega)]; try exact congrArg I (by simp only [TFile.size] <;> omega))

theorem c_laws_szFileS (a : (Sl TFile)) (left : Int) (w : World) (h_a : Ph.ok w a) (hl0 : 0 ≤ left) (hl1 : left ≤ 1048576) : Calls Tryz.prog 178 [Sl.v a, I left].toArray w (RetP w (I (lessN left (lsz TFile.size a.l)))) := by
 have hw := h_a.lt
 refine enterN 27 Tryz.func178 rfl rfl rfl ?_
 have hs := Sat.start w
 refine WC.seq ?_
 refine Qa ?_
 refine WL.next ?_
 refine WC.seq ?_
 refine Qm ?_
 refine Qm ?_
 refine WL.p Q0 (Yl.len_sl slu170 Q0) ?_
 refine WL.p Q0 (Yl.sub_ Q0 Q0 Q7) ?_
 refine Qa ?_
 refine WL.next ?_
 refine WC.seq' ?_
 refine WC.seq ?_
 refine Qm ?_
 refine WL.p Q0 (Yl.lss Q0 Q0) ?_
 refine WL.next ?_
 refine WC.condS Q0 (fun h1 => ?_) (fun h1 => ?_)
 ·
  replace h1 := of_decide_eq_true h1
  refine WC.seq ?_
  refine Qa ?_
  refine WL.next ?_
  refine WC.ret ?_
  refine At.thenret ?_
  refine fin1' rfl Q0 ?_
  refine RetP.mk hs ?_
  rw [lessN_lt (by simp only [lsz]; omega)]
 ·
  replace h1 := of_decide_eq_false h1
  refine WC.skipn ?_
  refine WC.seq' ?_
  refine WC.seq ?_
  refine Qa ?_
  refine WL.next ?_
  refine WC.block ?_
  refine WC.loopC (ι := Nat × Int) (fun ⟨k, l⟩ => a.l.length - k) (fun ⟨k, l⟩ => [(5, I (k : Int)), (1, I l)]) (fun _ => []) (fun ⟨k, l⟩ => 0 ≤ l ∧ l ≤ 1048576 ∧ lessN l (lsum TFile.size (a.l.drop k)) = lessN left (lsz TFile.size a.l)) [(0, _), (6, _), (7, _), (8, _), (9, _), (10, _), (11, _)] (0, left - (a.l.length : Int)) (hs) ⟨by rfl, by rfl, by rfl, by rfl, by rfl, by rfl, by rfl, trivial⟩ ⟨by rfl, by rfl, trivial⟩ ?_ ?_
  ·
   refine ⟨by omega, by omega, ?_⟩
   rw [List.drop_zero, lsz, lessN_sub Q7]
  clear hs; rintro ⟨k, l⟩ w ⟨hJ1, hJ2, hJ3⟩ hs
  simp only [List.nil_append] at hs
  refine WC.seq' ?_
  refine WC.seq ?_
  refine Qm ?_
  refine Qm ?_
  refine WL.p Q0 (Yl.len_sl slu170 Q0) ?_
  refine WL.p Q0 (Yl.lss Q0 Q0) ?_
  refine WL.next ?_
  refine WC.condS Q0 (fun h2 => ?_) (fun h2 => ?_)
  ·
   replace h2 := of_decide_eq_true h2
   obtain ⟨d, hd⟩ := exists_get (l := a.l) (k := k) Q7
   rw [drop_cons hd, lsum_cons] at hJ3
   refine WC.skipn ?_
   refine WC.seq' ?_
   refine WC.block ?_
   refine WC.seq ?_
   refine Qm ?_
   refine Qm ?_
   refine WL.p Q0 (Yl.indexAddr slt170 Q0 Q0 (Ph.old h_a hs) Q0 (hd)) ?_
   refine WL.p Q0 (Yl.loadA agg270 Q0 (Sl.Ok.at_ (Ph.old h_a hs) (by assumption)).2 Q0) ?_
   refine Qm ?_
   refine WL.callp hs Q0 (Yc.func Q0 fn213) (c_laws_szFile _ _ _ (Ph.old (Sl.Ok.elem h_a hd) hs) Q10 Q10) ?_
   clear hs; intro w hs
   refine Qa ?_
   refine WL.next ?_
   refine WC.seq ?_
   refine Qm ?_
   refine WL.p Q0 (Yl.lss Q0 Q0) ?_
   refine WL.next ?_
   refine WC.condS Q0 (fun h3 => ?_) (fun h3 => ?_)
   ·
    replace h3 := lessN_neg (of_decide_eq_true h3)
    refine WC.seq ?_
    refine Qa ?_
    refine WL.next ?_
    refine WC.ret ?_
    refine At.blockret ?_
    refine At.thenret ?_
    refine At.thenret ?_
    refine At.blockret ?_
    refine At.thenret ?_
    refine fin1' rfl Q0 ?_
    refine RetP.mk hs ?_
    rw [← hJ3, lessN_add_lt h3]
   ·
    replace h3 := lessN_nn Q7 (of_decide_eq_false h3)
    refine WC.skip ?_
    refine At.blocknormal ?_
    refine At.then_ ?_
    refine WC.region ?_
    refine Qm ?_
    refine WL.p Q0 (Yl.add Q0 Q0 Q7) ?_
    refine Qa ?_
    refine WL.nil ?_
    refine At.roundC (k + 1, lessN l (TFile.size d)) (hs.only Q2) ⟨by rfl, by rfl, by rfl, by rfl, by rfl, by rfl, by rfl, trivial⟩ ⟨by rfl, by rfl, trivial⟩ ?_ ?_
    ·
     show a.l.length - (k + 1) < a.l.length - k
     omega
    ·
     simp only [h3.2]
     refine ⟨by omega, by omega, ?_⟩
     rw [lessN_sub Q7, hJ3]
  ·
   replace h2 := of_decide_eq_false h2
   rw [drop_out (l := a.l) Q7, lsum_nil] at hJ3
   refine WC.exit ?_
   refine At.thenexit ?_
   refine At.thenexit ?_
   refine At.blockexit ?_
   refine At.then_ ?_
   refine WC.seq ?_
   refine Qm ?_
   refine Qa ?_
   refine WL.next ?_
   refine WC.ret ?_
   refine fin1' rfl Q0 ?_
   refine RetP.mk hs ?_
   rw [← hJ3, lessN_zero hJ1]

theorem c_laws_szServer (a : PServer) (left : Int) (w : World) (h_a : Ph.ok w a) (hl0 : 0 ≤ left) (hl1 : left ≤ 1048576) : Calls Tryz.prog 131 [.agg #[S a.host, Sl.v a.files], I left].toArray w (RetP w (I (lessN left a.lg.size))) := by
 have hb0 : a.host.length ≤ 9223372036854775807 := h_a.host
 refine enterN 19 Tryz.func131 rfl rfl rfl ?_
 have hs := Sat.start w
 refine WC.seq ?_
 refine WL.r Q0 (Yr.box hs Q0 Q0) ?_
 clear hs; rintro _ w ⟨b1, rfl, hb, hs⟩; clear hb
 refine Qa ?_
 refine WL.next ?_
 refine WC.seq ?_
 refine Qm ?_
 refine WL.p Q0 (Yl.fieldAddr fa172_0 Q0) ?_
 refine WL.p Q0 (Yl.loadB sca9 Q0 hs Q1 Q0) ?_
 refine WL.p Q0 (Yl.len_str str9 Q0) ?_
 refine WL.p Q0 (Yl.sub_ Q0 Q0 Q7) ?_
 refine Qa ?_
 refine WL.next ?_
 refine WC.seq' ?_
 refine WC.seq ?_
 refine Qm ?_
 refine WL.p Q0 (Yl.lss Q0 Q0) ?_
 refine WL.next ?_
 refine WC.condS Q0 (fun h1 => ?_) (fun h1 => ?_)
 ·
  replace h1 := of_decide_eq_true h1
  refine WC.seq ?_
  refine Qa ?_
  refine WL.next ?_
  refine WC.ret ?_
  refine At.thenret ?_
  refine fin1' rfl Q0 ?_
  refine RetP.mk hs ?_
  first
   | (rw [lessN_lt (left := left) (n := a.lg.size) (by simp only [TServer.size]; omega)]; done)
   | (rw [lessN_ge (left := left) (n := a.lg.size) (by simp only [TServer.size]; omega)]; try exact congrArg I (by simp only [TServer.size] <;> omega))
 ·
  replace h1 := of_decide_eq_false h1
  refine WC.skipn ?_
  refine WC.seq ?_
  refine WL.p Q0 (Yl.fieldAddr fa172_1 Q0) ?_
  refine WL.p Q0 (Yl.loadB sca170 Q0 hs Q1 Q0) ?_
  refine Qm ?_
  refine WL.callp hs Q0 (Yc.func Q0 fn178) (c_laws_szFileS _ _ _ (Ph.old h_a.files hs) (by first | assumption | omega | (simp only [TServer.size]; omega)) (by first | assumption | omega | (simp only [TServer.size]; omega))) ?_
  clear hs; intro w hs
  refine Qa ?_
  refine WL.next ?_
  refine WC.seq' ?_
  refine WC.seq ?_
  refine Qm ?_
  refine WL.p Q0 (Yl.lss Q0 Q0) ?_
  refine WL.next ?_
  refine WC.condS Q0 (fun h2 => ?_) (fun h2 => ?_)
  ·
   replace h2 := lessN_neg (of_decide_eq_true h2)
   refine WC.seq ?_
   refine Qa ?_
   refine WL.next ?_
   refine WC.ret ?_
   refine At.thenret ?_
   refine fin1' rfl Q0 ?_
   refine RetP.mk hs ?_
   first
    | (rw [lessN_lt (left := left) (n := a.lg.size) (by simp only [TServer.size]; omega)]; done)
    | (rw [lessN_ge (left := left) (n := a.lg.size) (by simp only [TServer.size]; omega)]; try exact congrArg I (by simp only [TServer.size] <;> omega))
  ·
   replace h2 := lessN_nn Q7 (of_decide_eq_false h2)
   refine WC.skipn ?_
   refine WC.seq ?_
   refine Qm ?_
   refine Qa ?_
   refine WL.next ?_
   refine WC.ret ?_
   refine fin1' rfl Q0 ?_
   refine RetP.mk hs ?_
   first
    | (rw [lessN_lt (left := left) (n := a.lg.size) (by simp only [TServer.size]; omega)]; done)
    | (rw [lessN_ge (left := left) (n := a.lg.size) (by simp only [TServer.size]; omega)]; try exact congrArg I (by simp only [TServer.size] <;> omega))

theorem c_laws_szServerS (a : (Sl PServer)) (left : Int) (w : World) (h_a : Ph.ok w a) (hl0 : 0 ≤ left) (hl1 : left ≤ 1048576) : Calls Tryz.prog 60 [Sl.v a, I left].toArray w (RetP w (I (lessN left (lsz (fun x : PServer => x.lg.size) a.l)))) := by
 have hw := h_a.lt
 refine enterN 27 Tryz.func60 rfl rfl rfl ?_
 have hs := Sat.start w
 refine WC.seq ?_
 refine Qa ?_
 refine WL.next ?_
 refine WC.seq ?_
 refine Qm ?_
 refine Qm ?_
 refine WL.p Q0 (Yl.len_sl slu22 Q0) ?_
 refine WL.p Q0 (Yl.sub_ Q0 Q0 Q7) ?_
 refine Qa ?_
 refine WL.next ?_
 refine WC.seq' ?_
 refine WC.seq ?_
 refine Qm ?_
 refine WL.p Q0 (Yl.lss Q0 Q0) ?_
 refine WL.next ?_
 refine WC.condS Q0 (fun h1 => ?_) (fun h1 => ?_)
 ·
  replace h1 := of_decide_eq_true h1
  refine WC.seq ?_
  refine Qa ?_
  refine WL.next ?_
  refine WC.ret ?_
  refine At.thenret ?_
  refine fin1' rfl Q0 ?_
  refine RetP.mk hs ?_
  rw [lessN_lt (by simp only [lsz]; omega)]
 ·
  replace h1 := of_decide_eq_false h1
  refine WC.skipn ?_
  refine WC.seq' ?_
  refine WC.seq ?_
  refine Qa ?_
  refine WL.next ?_
  refine WC.block ?_
  refine WC.loopC (ι := Nat × Int) (fun ⟨k, l⟩ => a.l.length - k) (fun ⟨k, l⟩ => [(5, I (k : Int)), (1, I l)]) (fun _ => []) (fun ⟨k, l⟩ => 0 ≤ l ∧ l ≤ 1048576 ∧ lessN l (lsum (fun x : PServer => x.lg.size) (a.l.drop k)) = lessN left (lsz (fun x : PServer => x.lg.size) a.l)) [(0, _), (6, _), (7, _), (8, _), (9, _), (10, _), (11, _)] (0, left - (a.l.length : Int)) (hs) ⟨by rfl, by rfl, by rfl, by rfl, by rfl, by rfl, by rfl, trivial⟩ ⟨by rfl, by rfl, trivial⟩ ?_ ?_
  ·
   refine ⟨by omega, by omega, ?_⟩
   rw [List.drop_zero, lsz, lessN_sub Q7]
  clear hs; rintro ⟨k, l⟩ w ⟨hJ1, hJ2, hJ3⟩ hs
  simp only [List.nil_append] at hs
  refine WC.seq' ?_
  refine WC.seq ?_
  refine Qm ?_
  refine Qm ?_
  refine WL.p Q0 (Yl.len_sl slu22 Q0) ?_
  refine WL.p Q0 (Yl.lss Q0 Q0) ?_
  refine WL.next ?_
  refine WC.condS Q0 (fun h2 => ?_) (fun h2 => ?_)
  ·
   replace h2 := of_decide_eq_true h2
   obtain ⟨d, hd⟩ := exists_get (l := a.l) (k := k) Q7
   rw [drop_cons hd, lsum_cons] at hJ3
   refine WC.skipn ?_
   refine WC.seq' ?_
   refine WC.block ?_
   refine WC.seq ?_
   refine Qm ?_
   refine Qm ?_
   refine WL.p Q0 (Yl.indexAddr slt22 Q0 Q0 (Ph.old h_a hs) Q0 (hd)) ?_
   refine WL.p Q0 (Yl.loadA agg172 Q0 (Sl.Ok.at_ (Ph.old h_a hs) (by assumption)).2 Q0) ?_
   refine Qm ?_
   refine WL.callp hs Q0 (Yc.func Q0 fn131) (c_laws_szServer _ _ _ (Ph.old (Sl.Ok.elem h_a hd) hs) Q10 Q10) ?_
   clear hs; intro w hs
   refine Qa ?_
   refine WL.next ?_
   refine WC.seq ?_
   refine Qm ?_
   refine WL.p Q0 (Yl.lss Q0 Q0) ?_
   refine WL.next ?_
   refine WC.condS Q0 (fun h3 => ?_) (fun h3 => ?_)
   ·
    replace h3 := lessN_neg (of_decide_eq_true h3)
    refine WC.seq ?_
    refine Qa ?_
    refine WL.next ?_
    refine WC.ret ?_
    refine At.blockret ?_
    refine At.thenret ?_
    refine At.thenret ?_
    refine At.blockret ?_
    refine At.thenret ?_
    refine fin1' rfl Q0 ?_
    refine RetP.mk hs ?_
    rw [← hJ3, lessN_add_lt h3]
   ·
    replace h3 := lessN_nn Q7 (of_decide_eq_false h3)
    refine WC.skip ?_
    refine At.blocknormal ?_
    refine At.then_ ?_
    refine WC.region ?_
    refine Qm ?_
    refine WL.p Q0 (Yl.add Q0 Q0 Q7) ?_
    refine Qa ?_
    refine WL.nil ?_
    refine At.roundC (k + 1, lessN l d.lg.size) (hs.only Q2) ⟨by rfl, by rfl, by rfl, by rfl, by rfl, by rfl, by rfl, trivial⟩ ⟨by rfl, by rfl, trivial⟩ ?_ ?_
    ·
     show a.l.length - (k + 1) < a.l.length - k
     omega
    ·
     simp only [h3.2]
     refine ⟨by omega, by omega, ?_⟩
     rw [lessN_sub Q7, hJ3]
  ·
   replace h2 := of_decide_eq_false h2
   rw [drop_out (l := a.l) Q7, lsum_nil] at hJ3
   refine WC.exit ?_
   refine At.thenexit ?_
   refine At.thenexit ?_
   refine At.blockexit ?_
   refine At.then_ ?_
   refine WC.seq ?_
   refine Qm ?_
   refine Qa ?_
   refine WL.next ?_
   refine WC.ret ?_
   refine fin1' rfl Q0 ?_
   refine RetP.mk hs ?_
   rw [← hJ3, lessN_zero hJ1]

theorem c_laws_szAddr (a : TAddr) (left : Int) (w : World) (h_a : Ph.ok w a) (hl0 : 0 ≤ left) (hl1 : left ≤ 1048576) : Calls Tryz.prog 12 [.agg #[S a.host, S a.path], I left].toArray w (RetP w (I (lessN left a.size))) := by
 have hb0 : a.host.length ≤ 9223372036854775807 := h_a.host
 have hb1 : a.path.length ≤ 9223372036854775807 := h_a.path
 refine enterN 20 Tryz.func12 rfl rfl rfl ?_
 have hs := Sat.start w
 refine WC.seq ?_
 refine WL.r Q0 (Yr.box hs Q0 Q0) ?_
 clear hs; rintro _ w ⟨b1, rfl, hb, hs⟩; clear hb
 refine Qa ?_
 refine WL.next ?_
 refine WC.seq ?_
 refine Qm ?_
 refine WL.p Q0 (Yl.fieldAddr fa30_0 Q0) ?_
 refine WL.p Q0 (Yl.loadB sca9 Q0 hs Q1 Q0) ?_
 refine WL.p Q0 (Yl.len_str str9 Q0) ?_
 refine WL.p Q0 (Yl.sub_ Q0 Q0 Q7) ?_
 refine Qa ?_
 refine WL.next ?_
 refine WC.seq' ?_
 refine WC.seq ?_
 refine Qm ?_
 refine WL.p Q0 (Yl.lss Q0 Q0) ?_
 refine WL.next ?_
 refine WC.condS Q0 (fun h1 => ?_) (fun h1 => ?_)
 ·
  replace h1 := of_decide_eq_true h1
  refine WC.seq ?_
  refine Qa ?_
  refine WL.next ?_
  refine WC.ret ?_
  refine At.thenret ?_
  refine fin1' rfl Q0 ?_
  refine RetP.mk hs ?_
  first
   | (rw [lessN_lt (left := left) (n := a.size) (by simp only [TAddr.size]; omega)]; done)
   | (rw [lessN_ge (left := left) (n := a.size) (by simp only [TAddr.size]; omega)]; try exact congrArg I (by simp only [TAddr.size] <;> omega))
 ·
  replace h1 := of_decide_eq_false h1
  refine WC.skipn ?_
  refine WC.seq ?_
  refine Qm ?_
  refine WL.p Q0 (Yl.fieldAddr fa30_1 Q0) ?_
  refine WL.p Q0 (Yl.loadB sca9 Q0 hs Q1 Q0) ?_
  refine WL.p Q0 (Yl.len_str str9 Q0) ?_
  refine WL.p Q0 (Yl.sub_ Q0 Q0 Q7) ?_
  refine Qa ?_
  refine WL.next ?_
  refine WC.seq' ?_
  refine WC.seq ?_
  refine Qm ?_
  refine WL.p Q0 (Yl.lss Q0 Q0) ?_
  refine WL.next ?_
  refine WC.condS Q0 (fun h2 => ?_) (fun h2 => ?_)
  ·
   replace h2 := of_decide_eq_true h2
   refine WC.seq ?_
   refine Qa ?_
   refine WL.next ?_
   refine WC.ret ?_
   refine At.thenret ?_
   refine fin1' rfl Q0 ?_
   refine RetP.mk hs ?_
   first
    | (rw [lessN_lt (left := left) (n := a.size) (by simp only [TAddr.size]; omega)]; done)
    | (rw [lessN_ge (left := left) (n := a.size) (by simp only [TAddr.size]; omega)]; try exact congrArg I (by simp only [TAddr.size] <;> omega))
  ·
   replace h2 := of_decide_eq_false h2
   refine WC.skipn ?_
   refine WC.seq ?_
   refine Qm ?_
   refine Qa ?_
   refine WL.next ?_
   refine WC.ret ?_
   refine fin1' rfl Q0 ?_
   refine RetP.mk hs ?_
   first
    | (rw [lessN_lt (left := left) (n := a.size) (by simp only [TAddr.size]; omega)]; done)
    | (rw [lessN_ge (left := left) (n := a.size) (by simp only [TAddr.size]; omega)]; try exact congrArg I (by simp only [TAddr.size] <;> omega))

theorem c_laws_szEntry (a : TEntry) (left : Int) (w : World) (h_a : Ph.ok w a) (hl0 : 0 ≤ left) (hl1 : left ≤ 1048576) : Calls Tryz.prog 179 [.agg #[S a.top, S a.to.host, S a.to.path, I a.response.status, I a.response.kind, S a.response.body, I a.response.age, Bo a.response.shares, S a.response.policy, I a.until_], I left].toArray w (RetP w (I (lessN left a.size))) := by
 have hb0 : a.top.length ≤ 9223372036854775807 := h_a.top
 refine enterN 25 Tryz.func179 rfl rfl rfl ?_
 have hs := Sat.start w
 refine WC.seq ?_
 refine WL.r Q0 (Yr.box hs Q0 Q0) ?_
 clear hs; rintro _ w ⟨b1, rfl, hb, hs⟩; clear hb
 refine Qa ?_
 refine WL.next ?_
 refine WC.seq ?_
 refine Qm ?_
 refine WL.p Q0 (Yl.fieldAddr fa224_0 Q0) ?_
 refine WL.p Q0 (Yl.loadB sca9 Q0 hs Q1 Q0) ?_
 refine WL.p Q0 (Yl.len_str str9 Q0) ?_
 refine WL.p Q0 (Yl.sub_ Q0 Q0 Q7) ?_
 refine Qa ?_
 refine WL.next ?_
 refine WC.seq' ?_
 refine WC.seq ?_
 refine Qm ?_
 refine WL.p Q0 (Yl.lss Q0 Q0) ?_
 refine WL.next ?_
 refine WC.condS Q0 (fun h1 => ?_) (fun h1 => ?_)
 ·
  replace h1 := of_decide_eq_true h1
  refine WC.seq ?_
  refine Qa ?_
  refine WL.next ?_
  refine WC.ret ?_
  refine At.thenret ?_
  refine fin1' rfl Q0 ?_
  refine RetP.mk hs ?_
  first
   | (rw [lessN_lt (left := left) (n := a.size) (by simp only [TEntry.size]; omega)]; done)
   | (rw [lessN_ge (left := left) (n := a.size) (by simp only [TEntry.size]; omega)]; try exact congrArg I (by simp only [TEntry.size] <;> omega))
 ·
  replace h1 := of_decide_eq_false h1
  refine WC.skipn ?_
  refine WC.seq ?_
  refine WL.p Q0 (Yl.fieldAddr fa224_1 Q0) ?_
  refine WL.p Q0 (Yl.loadAB agg30 Q0 hs Q1 Q0 Q0) ?_
  refine Qm ?_
  refine WL.callp hs Q0 (Yc.func Q0 fn12) (c_laws_szAddr _ _ _ ⟨(Ph.old h_a.to.host hs), (Ph.old h_a.to.path hs)⟩ (by first | assumption | omega | (simp only [TEntry.size]; omega)) (by first | assumption | omega | (simp only [TEntry.size]; omega))) ?_
  clear hs; intro w hs
  refine Qa ?_
  refine WL.next ?_
  refine WC.seq' ?_
  refine WC.seq ?_
  refine Qm ?_
  refine WL.p Q0 (Yl.lss Q0 Q0) ?_
  refine WL.next ?_
  refine WC.condS Q0 (fun h2 => ?_) (fun h2 => ?_)
  ·
   replace h2 := lessN_neg (of_decide_eq_true h2)
   refine WC.seq ?_
   refine Qa ?_
   refine WL.next ?_
   refine WC.ret ?_
   refine At.thenret ?_
   refine fin1' rfl Q0 ?_
   refine RetP.mk hs ?_
   first
    | (rw [lessN_lt (left := left) (n := a.size) (by simp only [TEntry.size]; omega)]; done)
    | (rw [lessN_ge (left := left) (n := a.size) (by simp only [TEntry.size]; omega)]; try exact congrArg I (by simp only [TEntry.size] <;> omega))
  ·
   replace h2 := lessN_nn Q7 (of_decide_eq_false h2)
   refine WC.skipn ?_
   refine WC.seq ?_
   refine WL.p Q0 (Yl.fieldAddr fa224_2 Q0) ?_
   refine WL.p Q0 (Yl.loadAB agg58 Q0 hs Q1 Q0 Q0) ?_
   refine Qm ?_
   refine WL.callp hs Q0 (Yc.func Q0 fn25) (c_laws_szResponse _ _ _ ⟨(Ph.old h_a.response.status hs), (Ph.old h_a.response.kind hs), (Ph.old h_a.response.body hs), (Ph.old h_a.response.age hs), (Ph.old h_a.response.shares hs), (Ph.old h_a.response.policy hs)⟩ (by first | assumption | omega | (simp only [TEntry.size]; omega)) (by first | assumption | omega | (simp only [TEntry.size]; omega))) ?_
   clear hs; intro w hs
   refine Qa ?_
   refine WL.next ?_
   refine WC.seq' ?_
   refine WC.seq ?_
   refine Qm ?_
   refine WL.p Q0 (Yl.lss Q0 Q0) ?_
   refine WL.next ?_
   refine WC.condS Q0 (fun h3 => ?_) (fun h3 => ?_)
   ·
    replace h3 := lessN_neg (of_decide_eq_true h3)
    refine WC.seq ?_
    refine Qa ?_
    refine WL.next ?_
    refine WC.ret ?_
    refine At.thenret ?_
    refine fin1' rfl Q0 ?_
    refine RetP.mk hs ?_
    first
     | (rw [lessN_lt (left := left) (n := a.size) (by simp only [TEntry.size]; omega)]; done)
     | (rw [lessN_ge (left := left) (n := a.size) (by simp only [TEntry.size]; omega)]; try exact congrArg I (by simp only [TEntry.size] <;> omega))
   ·
    replace h3 := lessN_nn Q7 (of_decide_eq_false h3)
    refine WC.skipn ?_
    refine WC.seq ?_
    refine Qm ?_
    refine Qa ?_
    refine WL.next ?_
    refine WC.ret ?_
    refine fin1' rfl Q0 ?_
    refine RetP.mk hs ?_
    first
     | (rw [lessN_lt (left := left) (n := a.size) (by simp only [TEntry.size]; omega)]; done)
     | (rw [lessN_ge (left := left) (n := a.size) (by simp only [TEntry.size]; omega)]; try exact congrArg I (by simp only [TEntry.size] <;> omega))

theorem c_laws_szEntryS (a : (Sl TEntry)) (left : Int) (w : World) (h_a : Ph.ok w a) (hl0 : 0 ≤ left) (hl1 : left ≤ 1048576) : Calls Tryz.prog 132 [Sl.v a, I left].toArray w (RetP w (I (lessN left (lsz TEntry.size a.l)))) := by
 have hw := h_a.lt
 refine enterN 27 Tryz.func132 rfl rfl rfl ?_
 have hs := Sat.start w
 refine WC.seq ?_
 refine Qa ?_
 refine WL.next ?_
 refine WC.seq ?_
 refine Qm ?_
 refine Qm ?_
 refine WL.p Q0 (Yl.len_sl slu23 Q0) ?_
 refine WL.p Q0 (Yl.sub_ Q0 Q0 Q7) ?_
 refine Qa ?_
 refine WL.next ?_
 refine WC.seq' ?_
 refine WC.seq ?_
 refine Qm ?_
 refine WL.p Q0 (Yl.lss Q0 Q0) ?_
 refine WL.next ?_
 refine WC.condS Q0 (fun h1 => ?_) (fun h1 => ?_)
 ·
  replace h1 := of_decide_eq_true h1
  refine WC.seq ?_
  refine Qa ?_
  refine WL.next ?_
  refine WC.ret ?_
  refine At.thenret ?_
  refine fin1' rfl Q0 ?_
  refine RetP.mk hs ?_
  rw [lessN_lt (by simp only [lsz]; omega)]
 ·
  replace h1 := of_decide_eq_false h1
  refine WC.skipn ?_
  refine WC.seq' ?_
  refine WC.seq ?_
  refine Qa ?_
  refine WL.next ?_
  refine WC.block ?_
  refine WC.loopC (ι := Nat × Int) (fun ⟨k, l⟩ => a.l.length - k) (fun ⟨k, l⟩ => [(5, I (k : Int)), (1, I l)]) (fun _ => []) (fun ⟨k, l⟩ => 0 ≤ l ∧ l ≤ 1048576 ∧ lessN l (lsum TEntry.size (a.l.drop k)) = lessN left (lsz TEntry.size a.l)) [(0, _), (6, _), (7, _), (8, _), (9, _), (10, _), (11, _)] (0, left - (a.l.length : Int)) (hs) ⟨by rfl, by rfl, by rfl, by rfl, by rfl, by rfl, by rfl, trivial⟩ ⟨by rfl, by rfl, trivial⟩ ?_ ?_
  ·
   refine ⟨by omega, by omega, ?_⟩
   rw [List.drop_zero, lsz, lessN_sub Q7]
  clear hs; rintro ⟨k, l⟩ w ⟨hJ1, hJ2, hJ3⟩ hs
  simp only [List.nil_append] at hs
  refine WC.seq' ?_
  refine WC.seq ?_
  refine Qm ?_
  refine Qm ?_
  refine WL.p Q0 (Yl.len_sl slu23 Q0) ?_
  refine WL.p Q0 (Yl.lss Q0 Q0) ?_
  refine WL.next ?_
  refine WC.condS Q0 (fun h2 => ?_) (fun h2 => ?_)
  ·
   replace h2 := of_decide_eq_true h2
   obtain ⟨d, hd⟩ := exists_get (l := a.l) (k := k) Q7
   rw [drop_cons hd, lsum_cons] at hJ3
   refine WC.skipn ?_
   refine WC.seq' ?_
   refine WC.block ?_
   refine WC.seq ?_
   refine Qm ?_
   refine Qm ?_
   refine WL.p Q0 (Yl.indexAddr slt23 Q0 Q0 (Ph.old h_a hs) Q0 (hd)) ?_
   refine WL.p Q0 (Yl.loadA agg224 Q0 (Sl.Ok.at_ (Ph.old h_a hs) (by assumption)).2 Q0) ?_
   refine Qm ?_
   refine WL.callp hs Q0 (Yc.func Q0 fn179) (c_laws_szEntry _ _ _ (Ph.old (Sl.Ok.elem h_a hd) hs) Q10 Q10) ?_
   clear hs; intro w hs
   refine Qa ?_
   refine WL.next ?_
   refine WC.seq ?_
   refine Qm ?_
   refine WL.p Q0 (Yl.lss Q0 Q0) ?_
   refine WL.next ?_
   refine WC.condS Q0 (fun h3 => ?_) (fun h3 => ?_)
   ·
    replace h3 := lessN_neg (of_decide_eq_true h3)
    refine WC.seq ?_
    refine Qa ?_
    refine WL.next ?_
    refine WC.ret ?_
    refine At.blockret ?_
    refine At.thenret ?_
    refine At.thenret ?_
    refine At.blockret ?_
    refine At.thenret ?_
    refine fin1' rfl Q0 ?_
    refine RetP.mk hs ?_
    rw [← hJ3, lessN_add_lt h3]
   ·
    replace h3 := lessN_nn Q7 (of_decide_eq_false h3)
    refine WC.skip ?_
    refine At.blocknormal ?_
    refine At.then_ ?_
    refine WC.region ?_
    refine Qm ?_
    refine WL.p Q0 (Yl.add Q0 Q0 Q7) ?_
    refine Qa ?_
    refine WL.nil ?_
    refine At.roundC (k + 1, lessN l (TEntry.size d)) (hs.only Q2) ⟨by rfl, by rfl, by rfl, by rfl, by rfl, by rfl, by rfl, trivial⟩ ⟨by rfl, by rfl, trivial⟩ ?_ ?_
    ·
     show a.l.length - (k + 1) < a.l.length - k
     omega
    ·
     simp only [h3.2]
     refine ⟨by omega, by omega, ?_⟩
     rw [lessN_sub Q7, hJ3]
  ·
   replace h2 := of_decide_eq_false h2
   rw [drop_out (l := a.l) Q7, lsum_nil] at hJ3
   refine WC.exit ?_
   refine At.thenexit ?_
   refine At.thenexit ?_
   refine At.blockexit ?_
   refine At.then_ ?_
   refine WC.seq ?_
   refine Qm ?_
   refine Qa ?_
   refine WL.next ?_
   refine WC.ret ?_
   refine fin1' rfl Q0 ?_
   refine RetP.mk hs ?_
   rw [← hJ3, lessN_zero hJ1]

theorem c_laws_szCache (a : PCache) (left : Int) (w : World) (h_a : Ph.ok w a) (hl0 : 0 ≤ left) (hl1 : left ≤ 1048576) : Calls Tryz.prog 61 [.agg #[Sl.v a.entries], I left].toArray w (RetP w (I (lessN left a.lg.size))) := by
 refine enterN 12 Tryz.func61 rfl rfl rfl ?_
 have hs := Sat.start w
 refine WC.seq ?_
 refine WL.r Q0 (Yr.box hs Q0 Q0) ?_
 clear hs; rintro _ w ⟨b1, rfl, hb, hs⟩; clear hb
 refine Qa ?_
 refine WL.next ?_
 refine WC.seq ?_
 refine WL.p Q0 (Yl.fieldAddr fa25_0 Q0) ?_
 refine WL.p Q0 (Yl.loadB sca23 Q0 hs Q1 Q0) ?_
 refine Qm ?_
 refine WL.callp hs Q0 (Yc.func Q0 fn132) (c_laws_szEntryS _ _ _ (Ph.old h_a.entries hs) (by first | assumption | omega | (simp only [TCache.size]; omega)) (by first | assumption | omega | (simp only [TCache.size]; omega))) ?_
 clear hs; intro w hs
 refine Qa ?_
 refine WL.next ?_
 refine WC.seq' ?_
 refine WC.seq ?_
 refine Qm ?_
 refine WL.p Q0 (Yl.lss Q0 Q0) ?_
 refine WL.next ?_
 refine WC.condS Q0 (fun h1 => ?_) (fun h1 => ?_)
 ·
  replace h1 := lessN_neg (of_decide_eq_true h1)
  refine WC.seq ?_
  refine Qa ?_
  refine WL.next ?_
  refine WC.ret ?_
  refine At.thenret ?_
  refine fin1' rfl Q0 ?_
  refine RetP.mk hs ?_
  first
   | (rw [lessN_lt (left := left) (n := a.lg.size) (by simp only [TCache.size]; omega)]; done)
   | (rw [lessN_ge (left := left) (n := a.lg.size) (by simp only [TCache.size]; omega)]; try exact congrArg I (by simp only [TCache.size] <;> omega))
 ·
  replace h1 := lessN_nn Q7 (of_decide_eq_false h1)
  refine WC.skipn ?_
  refine WC.seq ?_
  refine Qm ?_
  refine Qa ?_
  refine WL.next ?_
  refine WC.ret ?_
  refine fin1' rfl Q0 ?_
  refine RetP.mk hs ?_
  first
   | (rw [lessN_lt (left := left) (n := a.lg.size) (by simp only [TCache.size]; omega)]; done)
   | (rw [lessN_ge (left := left) (n := a.lg.size) (by simp only [TCache.size]; omega)]; try exact congrArg I (by simp only [TCache.size] <;> omega))

theorem c_laws_szSent (a : TSent) (left : Int) (w : World) (h_a : Ph.ok w a) (hl0 : 0 ≤ left) (hl1 : left ≤ 1048576) : Calls Tryz.prog 133 [.agg #[S a.top, S a.to.host, S a.to.path, Bo a.guess], I left].toArray w (RetP w (I (lessN left a.size))) := by
 have hb0 : a.top.length ≤ 9223372036854775807 := h_a.top
 refine enterN 19 Tryz.func133 rfl rfl rfl ?_
 have hs := Sat.start w
 refine WC.seq ?_
 refine WL.r Q0 (Yr.box hs Q0 Q0) ?_
 clear hs; rintro _ w ⟨b1, rfl, hb, hs⟩; clear hb
 refine Qa ?_
 refine WL.next ?_
 refine WC.seq ?_
 refine Qm ?_
 refine WL.p Q0 (Yl.fieldAddr fa176_0 Q0) ?_
 refine WL.p Q0 (Yl.loadB sca9 Q0 hs Q1 Q0) ?_
 refine WL.p Q0 (Yl.len_str str9 Q0) ?_
 refine WL.p Q0 (Yl.sub_ Q0 Q0 Q7) ?_
 refine Qa ?_
 refine WL.next ?_
 refine WC.seq' ?_
 refine WC.seq ?_
 refine Qm ?_
 refine WL.p Q0 (Yl.lss Q0 Q0) ?_
 refine WL.next ?_
 refine WC.condS Q0 (fun h1 => ?_) (fun h1 => ?_)
 ·
  replace h1 := of_decide_eq_true h1
  refine WC.seq ?_
  refine Qa ?_
  refine WL.next ?_
  refine WC.ret ?_
  refine At.thenret ?_
  refine fin1' rfl Q0 ?_
  refine RetP.mk hs ?_
  first
   | (rw [lessN_lt (left := left) (n := a.size) (by simp only [TSent.size]; omega)]; done)
   | (rw [lessN_ge (left := left) (n := a.size) (by simp only [TSent.size]; omega)]; try exact congrArg I (by simp only [TSent.size] <;> omega))
 ·
  replace h1 := of_decide_eq_false h1
  refine WC.skipn ?_
  refine WC.seq ?_
  refine WL.p Q0 (Yl.fieldAddr fa176_1 Q0) ?_
  refine WL.p Q0 (Yl.loadAB agg30 Q0 hs Q1 Q0 Q0) ?_
  refine Qm ?_
  refine WL.callp hs Q0 (Yc.func Q0 fn12) (c_laws_szAddr _ _ _ ⟨(Ph.old h_a.to.host hs), (Ph.old h_a.to.path hs)⟩ (by first | assumption | omega | (simp only [TSent.size]; omega)) (by first | assumption | omega | (simp only [TSent.size]; omega))) ?_
  clear hs; intro w hs
  refine Qa ?_
  refine WL.next ?_
  refine WC.seq' ?_
  refine WC.seq ?_
  refine Qm ?_
  refine WL.p Q0 (Yl.lss Q0 Q0) ?_
  refine WL.next ?_
  refine WC.condS Q0 (fun h2 => ?_) (fun h2 => ?_)
  ·
   replace h2 := lessN_neg (of_decide_eq_true h2)
   refine WC.seq ?_
   refine Qa ?_
   refine WL.next ?_
   refine WC.ret ?_
   refine At.thenret ?_
   refine fin1' rfl Q0 ?_
   refine RetP.mk hs ?_
   first
    | (rw [lessN_lt (left := left) (n := a.size) (by simp only [TSent.size]; omega)]; done)
    | (rw [lessN_ge (left := left) (n := a.size) (by simp only [TSent.size]; omega)]; try exact congrArg I (by simp only [TSent.size] <;> omega))
  ·
   replace h2 := lessN_nn Q7 (of_decide_eq_false h2)
   refine WC.skipn ?_
   refine WC.seq ?_
   refine Qm ?_
   refine Qa ?_
   refine WL.next ?_
   refine WC.ret ?_
   refine fin1' rfl Q0 ?_
   refine RetP.mk hs ?_
   first
    | (rw [lessN_lt (left := left) (n := a.size) (by simp only [TSent.size]; omega)]; done)
    | (rw [lessN_ge (left := left) (n := a.size) (by simp only [TSent.size]; omega)]; try exact congrArg I (by simp only [TSent.size] <;> omega))

theorem c_laws_szSentS (a : (Sl TSent)) (left : Int) (w : World) (h_a : Ph.ok w a) (hl0 : 0 ≤ left) (hl1 : left ≤ 1048576) : Calls Tryz.prog 62 [Sl.v a, I left].toArray w (RetP w (I (lessN left (lsz TSent.size a.l)))) := by
 have hw := h_a.lt
 refine enterN 27 Tryz.func62 rfl rfl rfl ?_
 have hs := Sat.start w
 refine WC.seq ?_
 refine Qa ?_
 refine WL.next ?_
 refine WC.seq ?_
 refine Qm ?_
 refine Qm ?_
 refine WL.p Q0 (Yl.len_sl slu26 Q0) ?_
 refine WL.p Q0 (Yl.sub_ Q0 Q0 Q7) ?_
 refine Qa ?_
 refine WL.next ?_
 refine WC.seq' ?_
 refine WC.seq ?_
 refine Qm ?_
 refine WL.p Q0 (Yl.lss Q0 Q0) ?_
 refine WL.next ?_
 refine WC.condS Q0 (fun h1 => ?_) (fun h1 => ?_)
 ·
  replace h1 := of_decide_eq_true h1
  refine WC.seq ?_
  refine Qa ?_
  refine WL.next ?_
  refine WC.ret ?_
  refine At.thenret ?_
  refine fin1' rfl Q0 ?_
  refine RetP.mk hs ?_
  rw [lessN_lt (by simp only [lsz]; omega)]
 ·
  replace h1 := of_decide_eq_false h1
  refine WC.skipn ?_
  refine WC.seq' ?_
  refine WC.seq ?_
  refine Qa ?_
  refine WL.next ?_
  refine WC.block ?_
  refine WC.loopC (ι := Nat × Int) (fun ⟨k, l⟩ => a.l.length - k) (fun ⟨k, l⟩ => [(5, I (k : Int)), (1, I l)]) (fun _ => []) (fun ⟨k, l⟩ => 0 ≤ l ∧ l ≤ 1048576 ∧ lessN l (lsum TSent.size (a.l.drop k)) = lessN left (lsz TSent.size a.l)) [(0, _), (6, _), (7, _), (8, _), (9, _), (10, _), (11, _)] (0, left - (a.l.length : Int)) (hs) ⟨by rfl, by rfl, by rfl, by rfl, by rfl, by rfl, by rfl, trivial⟩ ⟨by rfl, by rfl, trivial⟩ ?_ ?_
  ·
   refine ⟨by omega, by omega, ?_⟩
   rw [List.drop_zero, lsz, lessN_sub Q7]
  clear hs; rintro ⟨k, l⟩ w ⟨hJ1, hJ2, hJ3⟩ hs
  simp only [List.nil_append] at hs
  refine WC.seq' ?_
  refine WC.seq ?_
  refine Qm ?_
  refine Qm ?_
  refine WL.p Q0 (Yl.len_sl slu26 Q0) ?_
  refine WL.p Q0 (Yl.lss Q0 Q0) ?_
  refine WL.next ?_
  refine WC.condS Q0 (fun h2 => ?_) (fun h2 => ?_)
  ·
   replace h2 := of_decide_eq_true h2
   obtain ⟨d, hd⟩ := exists_get (l := a.l) (k := k) Q7
   rw [drop_cons hd, lsum_cons] at hJ3
   refine WC.skipn ?_
   refine WC.seq' ?_
   refine WC.block ?_
   refine WC.seq ?_
   refine Qm ?_
   refine Qm ?_
   refine WL.p Q0 (Yl.indexAddr slt26 Q0 Q0 (Ph.old h_a hs) Q0 (hd)) ?_
   refine WL.p Q0 (Yl.loadA agg176 Q0 (Sl.Ok.at_ (Ph.old h_a hs) (by assumption)).2 Q0) ?_
   refine Qm ?_
   refine WL.callp hs Q0 (Yc.func Q0 fn133) (c_laws_szSent _ _ _ (Ph.old (Sl.Ok.elem h_a hd) hs) Q10 Q10) ?_
   clear hs; intro w hs
   refine Qa ?_
   refine WL.next ?_
   refine WC.seq ?_
   refine Qm ?_
   refine WL.p Q0 (Yl.lss Q0 Q0) ?_
   refine WL.next ?_
   refine WC.condS Q0 (fun h3 => ?_) (fun h3 => ?_)
   ·
    replace h3 := lessN_neg (of_decide_eq_true h3)
    refine WC.seq ?_
    refine Qa ?_
    refine WL.next ?_
    refine WC.ret ?_
    refine At.blockret ?_
    refine At.thenret ?_
    refine At.thenret ?_
    refine At.blockret ?_
    refine At.thenret ?_
    refine fin1' rfl Q0 ?_
    refine RetP.mk hs ?_
    rw [← hJ3, lessN_add_lt h3]
   ·
    replace h3 := lessN_nn Q7 (of_decide_eq_false h3)
    refine WC.skip ?_
    refine At.blocknormal ?_
    refine At.then_ ?_
    refine WC.region ?_
    refine Qm ?_
    refine WL.p Q0 (Yl.add Q0 Q0 Q7) ?_
    refine Qa ?_
    refine WL.nil ?_
    refine At.roundC (k + 1, lessN l (TSent.size d)) (hs.only Q2) ⟨by rfl, by rfl, by rfl, by rfl, by rfl, by rfl, by rfl, trivial⟩ ⟨by rfl, by rfl, trivial⟩ ?_ ?_
    ·
     show a.l.length - (k + 1) < a.l.length - k
     omega
    ·
     simp only [h3.2]
     refine ⟨by omega, by omega, ?_⟩
     rw [lessN_sub Q7, hJ3]
  ·
   replace h2 := of_decide_eq_false h2
   rw [drop_out (l := a.l) Q7, lsum_nil] at hJ3
   refine WC.exit ?_
   refine At.thenexit ?_
   refine At.thenexit ?_
   refine At.blockexit ?_
   refine At.then_ ?_
   refine WC.seq ?_
   refine Qm ?_
   refine Qa ?_
   refine WL.next ?_
   refine WC.ret ?_
   refine fin1' rfl Q0 ?_
   refine RetP.mk hs ?_
   rw [← hJ3, lessN_zero hJ1]

theorem c_laws_szNet (a : PNet) (left : Int) (w : World) (h_a : Ph.ok w a) (hl0 : 0 ≤ left) (hl1 : left ≤ 1048576) : Calls Tryz.prog 11 [.agg #[Sl.v a.servers, Sl.v a.cache.entries, Sl.v a.log, I a.now], I left].toArray w (RetP w (I (lessN left a.lg.size))) := by
 refine enterN 24 Tryz.func11 rfl rfl rfl ?_
 have hs := Sat.start w
 refine WC.seq ?_
 refine WL.r Q0 (Yr.box hs Q0 Q0) ?_
 clear hs; rintro _ w ⟨b1, rfl, hb, hs⟩; clear hb
 refine Qa ?_
 refine WL.next ?_
 refine WC.seq ?_
 refine WL.p Q0 (Yl.fieldAddr fa28_0 Q0) ?_
 refine WL.p Q0 (Yl.loadB sca22 Q0 hs Q1 Q0) ?_
 refine Qm ?_
 refine WL.callp hs Q0 (Yc.func Q0 fn60) (c_laws_szServerS _ _ _ (Ph.old h_a.servers hs) (by first | assumption | omega | (simp only [TNet.size, lsz_map]; omega)) (by first | assumption | omega | (simp only [TNet.size, lsz_map]; omega))) ?_
 clear hs; intro w hs
 refine Qa ?_
 refine WL.next ?_
 refine WC.seq' ?_
 refine WC.seq ?_
 refine Qm ?_
 refine WL.p Q0 (Yl.lss Q0 Q0) ?_
 refine WL.next ?_
 refine WC.condS Q0 (fun h1 => ?_) (fun h1 => ?_)
 ·
  replace h1 := lessN_neg (of_decide_eq_true h1)
  refine WC.seq ?_
  refine Qa ?_
  refine WL.next ?_
  refine WC.ret ?_
  refine At.thenret ?_
  refine fin1' rfl Q0 ?_
  refine RetP.mk hs ?_
  first
   | (rw [lessN_lt (left := left) (n := a.lg.size) (by simp only [TNet.size, lsz_map]; omega)]; done)
   | (rw [lessN_ge (left := left) (n := a.lg.size) (by simp only [TNet.size, lsz_map]; omega)]; try exact congrArg I (by simp only [TNet.size, lsz_map] <;> omega))
 ·
  replace h1 := lessN_nn Q7 (of_decide_eq_false h1)
  refine WC.skipn ?_
  refine WC.seq ?_
  refine WL.p Q0 (Yl.fieldAddr fa28_1 Q0) ?_
  refine WL.p Q0 (Yl.loadAB agg25 Q0 hs Q1 Q0 Q0) ?_
  refine Qm ?_
  refine WL.callp hs Q0 (Yc.func Q0 fn61) (c_laws_szCache _ _ _ ⟨(Ph.old h_a.cache.entries hs)⟩ (by first | assumption | omega | (simp only [TNet.size, lsz_map]; omega)) (by first | assumption | omega | (simp only [TNet.size, lsz_map]; omega))) ?_
  clear hs; intro w hs
  refine Qa ?_
  refine WL.next ?_
  refine WC.seq' ?_
  refine WC.seq ?_
  refine Qm ?_
  refine WL.p Q0 (Yl.lss Q0 Q0) ?_
  refine WL.next ?_
  refine WC.condS Q0 (fun h2 => ?_) (fun h2 => ?_)
  ·
   replace h2 := lessN_neg (of_decide_eq_true h2)
   refine WC.seq ?_
   refine Qa ?_
   refine WL.next ?_
   refine WC.ret ?_
   refine At.thenret ?_
   refine fin1' rfl Q0 ?_
   refine RetP.mk hs ?_
   first
    | (rw [lessN_lt (left := left) (n := a.lg.size) (by simp only [TNet.size, lsz_map]; omega)]; done)
    | (rw [lessN_ge (left := left) (n := a.lg.size) (by simp only [TNet.size, lsz_map]; omega)]; try exact congrArg I (by simp only [TNet.size, lsz_map] <;> omega))
  ·
   replace h2 := lessN_nn Q7 (of_decide_eq_false h2)
   refine WC.skipn ?_
   refine WC.seq ?_
   refine WL.p Q0 (Yl.fieldAddr fa28_2 Q0) ?_
   refine WL.p Q0 (Yl.loadB sca26 Q0 hs Q1 Q0) ?_
   refine Qm ?_
   refine WL.callp hs Q0 (Yc.func Q0 fn62) (c_laws_szSentS _ _ _ (Ph.old h_a.log hs) (by first | assumption | omega | (simp only [TNet.size, lsz_map]; omega)) (by first | assumption | omega | (simp only [TNet.size, lsz_map]; omega))) ?_
   clear hs; intro w hs
   refine Qa ?_
   refine WL.next ?_
   refine WC.seq' ?_
   refine WC.seq ?_
   refine Qm ?_
   refine WL.p Q0 (Yl.lss Q0 Q0) ?_
   refine WL.next ?_
   refine WC.condS Q0 (fun h3 => ?_) (fun h3 => ?_)
   ·
    replace h3 := lessN_neg (of_decide_eq_true h3)
    refine WC.seq ?_
    refine Qa ?_
    refine WL.next ?_
    refine WC.ret ?_
    refine At.thenret ?_
    refine fin1' rfl Q0 ?_
    refine RetP.mk hs ?_
    first
     | (rw [lessN_lt (left := left) (n := a.lg.size) (by simp only [TNet.size, lsz_map]; omega)]; done)
     | (rw [lessN_ge (left := left) (n := a.lg.size) (by simp only [TNet.size, lsz_map]; omega)]; try exact congrArg I (by simp only [TNet.size, lsz_map] <;> omega))
   ·
    replace h3 := lessN_nn Q7 (of_decide_eq_false h3)
    refine WC.skipn ?_
    refine WC.seq ?_
    refine Qm ?_
    refine Qa ?_
    refine WL.next ?_
    refine WC.ret ?_
    refine fin1' rfl Q0 ?_
    refine RetP.mk hs ?_
    first
     | (rw [lessN_lt (left := left) (n := a.lg.size) (by simp only [TNet.size, lsz_map]; omega)]; done)
     | (rw [lessN_ge (left := left) (n := a.lg.size) (by simp only [TNet.size, lsz_map]; omega)]; try exact congrArg I (by simp only [TNet.size, lsz_map] <;> omega))

theorem c_laws_toResponse (a : TResponse) (w : World)   : Calls Tryz.prog 29 [.agg #[I a.status, I a.kind, S a.body, I a.age, Bo a.shares, S a.policy]].toArray w (RetP w (.agg (Ph.enc a).toArray)) := by
 refine enterN 23 Tryz.func29 rfl rfl rfl ?_
 have hs := Sat.start w
 refine WC.seq ?_
 refine WL.r Q0 (Yr.box hs Q0 Q0) ?_
 clear hs; rintro _ w ⟨b1, rfl, hb, hs⟩; clear hb
 refine WL.r Q0 (Yr.alloc hs zt41) ?_
 clear hs; rintro _ w ⟨b2, rfl, hb, hs⟩; clear hb
 refine WL.next ?_
 refine WC.seq ?_
 refine WL.r Q0 (Yr.alloc hs zt41) ?_
 clear hs; rintro _ w ⟨b3, rfl, hb, hs⟩; clear hb
 refine WL.next ?_
 refine WC.seq ?_
 refine WL.p Q0 (Yl.fieldAddr fa58_0 Q0) ?_
 refine WL.p Q0 (Yl.loadB sca3 Q0 hs Q1 Q0) ?_
 refine WL.p Q0 (Yl.fieldAddr fa41_0 Q0) ?_
 refine WL.s (Yr.storeB hs Q0 Q0 Q0 Q5 Q3 Q0 (by exact szf3)) ?_
 clear hs; rintro _ w hs
 refine WL.next ?_
 refine WC.seq ?_
 refine WL.p Q0 (Yl.fieldAddr fa58_1 Q0) ?_
 refine WL.p Q0 (Yl.loadB sca3 Q0 hs Q1 Q0) ?_
 refine WL.p Q0 (Yl.fieldAddr fa41_1 Q0) ?_
 refine WL.s (Yr.storeB hs Q0 Q0 Q0 Q5 Q3 Q0 (by exact szf3)) ?_
 clear hs; rintro _ w hs
 refine WL.next ?_
 refine WC.seq ?_
 refine WL.p Q0 (Yl.fieldAddr fa58_2 Q0) ?_
 refine WL.p Q0 (Yl.loadB sca9 Q0 hs Q1 Q0) ?_
 refine WL.p Q0 (Yl.fieldAddr fa41_2 Q0) ?_
 refine WL.s (Yr.storeB hs Q0 Q0 Q0 Q5 Q3 Q0 (by exact szf9)) ?_
 clear hs; rintro _ w hs
 refine WL.next ?_
 refine WC.seq ?_
 refine WL.p Q0 (Yl.fieldAddr fa58_3 Q0) ?_
 refine WL.p Q0 (Yl.loadB sca3 Q0 hs Q1 Q0) ?_
 refine WL.p Q0 (Yl.fieldAddr fa41_3 Q0) ?_
 refine WL.s (Yr.storeB hs Q0 Q0 Q0 Q5 Q3 Q0 (by exact szf3)) ?_
 clear hs; rintro _ w hs
 refine WL.next ?_
 refine WC.seq ?_
 refine WL.p Q0 (Yl.fieldAddr fa58_4 Q0) ?_
 refine WL.p Q0 (Yl.loadB sca4 Q0 hs Q1 Q0) ?_
 refine WL.p Q0 (Yl.fieldAddr fa41_4 Q0) ?_
 refine WL.s (Yr.storeB hs Q0 Q0 Q0 Q5 Q3 Q0 (by exact szf4)) ?_
 clear hs; rintro _ w hs
 refine WL.next ?_
 refine WC.seq ?_
 refine WL.p Q0 (Yl.fieldAddr fa58_5 Q0) ?_
 refine WL.p Q0 (Yl.loadB sca9 Q0 hs Q1 Q0) ?_
 refine WL.p Q0 (Yl.fieldAddr fa41_5 Q0) ?_
 refine WL.s (Yr.storeB hs Q0 Q0 Q0 Q5 Q3 Q0 (by exact szf9)) ?_
 clear hs; rintro _ w hs
 refine WL.next ?_
 refine WC.seq ?_
 refine WL.p Q0 (Yl.loadAB agg41 Q0 hs Q1 Q0 Q0) ?_
 refine WL.s (Yr.storeB hs Q0 Q0 Q0 Q5 Q3 Q0 (by exact szf41)) ?_
 clear hs; rintro _ w hs
 refine WL.next ?_
 refine WC.ret ?_
 refine fin1c rfl agg41 Q0 hs Q1 Q0 ?_
 refine RetP.mk hs ?_
 rfl

theorem c_laws_toFile (a : TFile) (w : World)   : Calls Tryz.prog 214 [.agg #[S a.path, I a.response.status, I a.response.kind, S a.response.body, I a.response.age, Bo a.response.shares, S a.response.policy]].toArray w (RetP w (.agg (Ph.enc a).toArray)) := by
 refine enterN 12 Tryz.func214 rfl rfl rfl ?_
 have hs := Sat.start w
 refine WC.seq ?_
 refine WL.r Q0 (Yr.box hs Q0 Q0) ?_
 clear hs; rintro _ w ⟨b1, rfl, hb, hs⟩; clear hb
 refine WL.r Q0 (Yr.alloc hs zt187) ?_
 clear hs; rintro _ w ⟨b2, rfl, hb, hs⟩; clear hb
 refine WL.next ?_
 refine WC.seq ?_
 refine WL.r Q0 (Yr.alloc hs zt187) ?_
 clear hs; rintro _ w ⟨b3, rfl, hb, hs⟩; clear hb
 refine WL.next ?_
 refine WC.seq ?_
 refine WL.p Q0 (Yl.fieldAddr fa270_0 Q0) ?_
 refine WL.p Q0 (Yl.loadB sca9 Q0 hs Q1 Q0) ?_
 refine WL.p Q0 (Yl.fieldAddr fa187_0 Q0) ?_
 refine WL.s (Yr.storeB hs Q0 Q0 Q0 Q5 Q3 Q0 (by exact szf9)) ?_
 clear hs; rintro _ w hs
 refine WL.next ?_
 refine WC.seq ?_
 refine WL.p Q0 (Yl.fieldAddr fa270_1 Q0) ?_
 refine WL.p Q0 (Yl.loadAB agg58 Q0 hs Q1 Q0 Q0) ?_
 refine WL.callp hs Q0 (Yc.func Q0 fn29) (c_laws_toResponse _ _) ?_
 clear hs; intro w hs
 refine WL.p Q0 (Yl.fieldAddr fa187_1 Q0) ?_
 refine WL.s (Yr.storeB hs Q0 Q0 Q0 Q5 Q3 Q0 (by exact szf41)) ?_
 clear hs; rintro _ w hs
 refine WL.next ?_
 refine WC.seq ?_
 refine WL.p Q0 (Yl.loadAB agg187 Q0 hs Q1 Q0 Q0) ?_
 refine WL.s (Yr.storeB hs Q0 Q0 Q0 Q5 Q3 Q0 (by exact szf187)) ?_
 clear hs; rintro _ w hs
 refine WL.next ?_
 refine WC.ret ?_
 refine fin1c rfl agg187 Q0 hs Q1 Q0 ?_
 refine RetP.mk hs ?_
 rfl

theorem c_laws_toFileS (a : (Sl TFile)) (w : World) (h_a : Ph.ok w a) (hb : a.l.length ≤ 1048576) : Calls Tryz.prog 180 [Sl.v a].toArray w (Ret w (fun v w' => ∃ x : Sl TFile, v = x.v ∧ x.l = a.l ∧ Fresh w x w')) := by
 have hw := h_a.lt
 refine enterN 23 Tryz.func180 rfl rfl rfl ?_
 have hs := Sat.start w
 refine WC.seq ?_
 refine Qa ?_
 refine WL.next ?_
 refine WC.seq ?_
 refine Qm ?_
 refine WL.p Q0 (Yl.len_sl slu170 Q0) ?_
 refine WL.r Q0 (Yr.makeSlice (z := (⟨[], ⟨0, 0, [], 0, false, []⟩⟩ : TFile)) (bytes := 80) hs elt183 Q0 Q0 Q7 (by unfold maxLen; omega)) ?_
 clear hs; rintro _ w ⟨s1, F1, rfl, hl1, hb, hs⟩; clear hb
 refine Qa ?_
 refine WL.next ?_
 refine WC.seq' ?_
 refine WC.seq ?_
 refine Qa ?_
 refine WL.next ?_
 refine WC.block ?_
 refine WC.loopC (ι := Nat × Sl TFile × List Nat) (fun ⟨k, s, F⟩ => a.l.length - k) (fun ⟨k, s, F⟩ => [(4, I (k : Int)), (3, s.v)]) (fun ⟨k, s, F⟩ => [ow s F]) (fun ⟨k, s, F⟩ => k ≤ a.l.length ∧ s.l = a.l.take k ++ List.replicate (a.l.length - k) (⟨[], ⟨0, 0, [], 0, false, []⟩⟩ : TFile)) [(0, _), (2, _), (5, _), (6, _), (7, _)] (0, s1, F1) (hs.sel (D := [ow s1 F1]) Q2) ⟨by rfl, by rfl, by rfl, by rfl, by rfl, trivial⟩ ⟨by rfl, by rfl, trivial⟩ ?_ ?_
 ·
  exact ⟨Nat.zero_le _, by simp [hl1]⟩
 clear hs; rintro ⟨k, s, F⟩ w ⟨hJ1, hJ2⟩ hs
 simp only [List.cons_append, List.nil_append] at hs
 refine WC.seq' ?_
 refine WC.seq ?_
 refine Qm ?_
 refine Qm ?_
 refine WL.p Q0 (Yl.len_sl slu170 Q0) ?_
 refine WL.p Q0 (Yl.lss Q0 Q0) ?_
 refine WL.next ?_
 refine WC.condS Q0 (fun h1 => ?_) (fun h1 => ?_)
 ·
  replace h1 := of_decide_eq_true h1
  obtain ⟨d, hd⟩ := exists_get (l := a.l) (k := k) Q7
  have hkl : k < s.l.length := by rw [hJ2]; simp; omega
  refine WC.skipn ?_
  refine WC.seq' ?_
  refine WC.block ?_
  refine WC.region ?_
  refine Qm ?_
  refine Qm ?_
  refine Qm ?_
  refine Qm ?_
  refine WL.p Q0 (Yl.indexAddr slt170 Q0 Q0 (Ph.old h_a hs) Q0 (hd)) ?_
  refine WL.p Q0 (Yl.loadA agg270 Q0 (Sl.Ok.at_ (Ph.old h_a hs) (by assumption)).2 Q0) ?_
  refine WL.callp hs Q0 (Yc.func Q0 fn214) (c_laws_toFile _ _) ?_
  clear hs; intro w hs
  refine WL.p Q0 (Yl.indexAddr slt183 Q0 Q0 (hs.okow (x := s) (F := F) Q1) Q0 (List.getElem?_eq_getElem hkl)) ?_
  refine WL.s (Yr.storeE (k := k) (hs.flat (by first | assumption | (refine Ph.old ?_ hs; assumption) | (refine Ph.old (Sl.Ok.elem ?_ (by assumption)) hs; assumption))) Q2 Q0 Q0 Q0 (by exact hkl) ⟨_, by rfl, by rfl⟩ szf187) ?_
  clear hs; rintro _ w ⟨F2, hs⟩
  refine WL.nil ?_
  refine At.blocknormal ?_
  refine At.then_ ?_
  refine WC.region ?_
  refine Qm ?_
  refine WL.p Q0 (Yl.add Q0 Q0 Q7) ?_
  refine Qa ?_
  refine WL.nil ?_
  refine At.roundC (k + 1, ⟨s.l.set k d, s.a, s.c⟩, _) (hs.only Q2) ⟨by rfl, by rfl, by rfl, by rfl, by rfl, trivial⟩ ⟨by rfl, by rw [Sl.v_set]; rfl, trivial⟩ ?_ ?_
  ·
   show a.l.length - (k + 1) < a.l.length - k
   omega
  ·
   exact ⟨by omega, by simp only [hJ2]; exact fill_step hd⟩
 ·
  replace h1 := of_decide_eq_false h1
  refine WC.exit ?_
  refine At.thenexit ?_
  refine At.thenexit ?_
  refine At.blockexit ?_
  refine At.then_ ?_
  refine WC.seq ?_
  refine Qm ?_
  refine Qa ?_
  refine WL.next ?_
  refine WC.ret ?_
  refine fin1' rfl Q0 ?_
  refine Ret.mk hs ?_
  exact ⟨s, rfl, by rw [hJ2, show k = a.l.length from by omega]; simp, hs.fresh Q1⟩

theorem c_laws_toServer (a : PServer) (w : World) (h_a : Ph.ok w a) (hb : a.lg.size ≤ 1048576) : Calls Tryz.prog 138 [.agg #[S a.host, Sl.v a.files]].toArray w (Ret w (fun v w' => ∃ x : PServer, v = .agg (Ph.enc x).toArray ∧ x.lg = a.lg ∧ Fresh w x w')) := by
 refine enterN 12 Tryz.func138 rfl rfl rfl ?_
 have hs := Sat.start w
 refine WC.seq ?_
 refine WL.r Q0 (Yr.box hs Q0 Q0) ?_
 clear hs; rintro _ w ⟨b1, rfl, hb, hs⟩; clear hb
 refine WL.r Q0 (Yr.alloc hs zt185) ?_
 clear hs; rintro _ w ⟨b2, rfl, hb, hs⟩; clear hb
 refine WL.next ?_
 refine WC.seq ?_
 refine WL.r Q0 (Yr.alloc hs zt185) ?_
 clear hs; rintro _ w ⟨b3, rfl, hb, hs⟩; clear hb
 refine WL.next ?_
 refine WC.seq ?_
 refine WL.p Q0 (Yl.fieldAddr fa172_0 Q0) ?_
 refine WL.p Q0 (Yl.loadB sca9 Q0 hs Q1 Q0) ?_
 refine WL.p Q0 (Yl.fieldAddr fa185_0 Q0) ?_
 refine WL.s (Yr.storeB hs Q0 Q0 Q0 Q5 Q3 Q0 (by exact szf9)) ?_
 clear hs; rintro _ w hs
 refine WL.next ?_
 refine WC.seq ?_
 refine WL.p Q0 (Yl.fieldAddr fa172_1 Q0) ?_
 refine WL.p Q0 (Yl.loadB sca170 Q0 hs Q1 Q0) ?_
 refine WL.call hs Q0 (Yc.func Q0 fn180) (c_laws_toFileS _ _ (Ph.old h_a.files hs) Q10) ?_
 have hs0 := hs; clear hs; intro v w hb hR hs; clear hs
 obtain ⟨x4, rfl, hx4, hf4⟩ := hR
 obtain ⟨F4, hs⟩ := hf4.sat hs0 hb; clear hs0 hf4
 have hle4 := Sl.Ok.le (hs.okow (x := x4) (F := F4) Q1)
 refine WL.p Q0 (Yl.fieldAddr fa185_1 Q0) ?_
 refine WL.s (Yr.storeB hs Q0 Q0 Q0 Q5 Q3 Q0 (by exact szf183)) ?_
 clear hs; rintro _ w hs
 refine WL.next ?_
 refine WC.seq ?_
 refine WL.p Q0 (Yl.loadAB agg185 Q0 hs Q1 Q0 Q0) ?_
 refine WL.s (Yr.storeB hs Q0 Q0 Q0 Q5 Q3 Q0 (by exact szf185)) ?_
 clear hs; rintro _ w hs
 refine WL.next ?_
 refine WC.ret ?_
 refine fin1c rfl agg185 Q0 hs Q1 Q0 ?_
 refine Ret.mk hs ?_
 refine ⟨⟨_, x4⟩, rfl, ?_, ?_⟩
 · simp_all
 · exact (PServer.join _ (hs.only (D := [ow x4 F4]) Q2) (by first | exact Ph.old h_a.host hs | trivial | assumption | exact Nat.zero_le _)).fresh List.mem_cons_self

theorem c_laws_toServerS (a : (Sl PServer)) (w : World) (h_a : Ph.ok w a) (hb : lsz (fun x : PServer => x.lg.size) a.l ≤ 1048576) : Calls Tryz.prog 68 [Sl.v a].toArray w (Ret w (fun v w' => ∃ x : Sl PServer, v = x.v ∧ x.l.map PServer.lg = a.l.map PServer.lg ∧ Fresh w x w')) := by
 have hw := h_a.lt
 refine enterN 23 Tryz.func68 rfl rfl rfl ?_
 have hs := Sat.start w
 refine WC.seq ?_
 refine Qa ?_
 refine WL.next ?_
 refine WC.seq ?_
 refine Qm ?_
 refine WL.p Q0 (Yl.len_sl slu22 Q0) ?_
 refine WL.r Q0 (Yr.makeSlice (z := (⟨[], ⟨[], none, 0⟩⟩ : PServer)) (bytes := 40) hs elt33 Q0 Q0 (by simp only [lsz] at hb; omega) (by simp only [lsz] at hb; unfold maxLen; omega)) ?_
 clear hs; rintro _ w ⟨s1, F1, rfl, hl1, hb, hs⟩; clear hb
 refine Qa ?_
 refine WL.next ?_
 refine WC.seq' ?_
 refine WC.seq ?_
 refine Qa ?_
 refine WL.next ?_
 refine WC.block ?_
 refine WC.loopC (ι := Nat × Sl PServer × List Nat) (fun ⟨k, s, F⟩ => a.l.length - k) (fun ⟨k, s, F⟩ => [(4, I (k : Int)), (3, s.v)]) (fun ⟨k, s, F⟩ => [ow s F]) (fun ⟨k, s, F⟩ => k ≤ a.l.length ∧ s.l.map PServer.lg = (a.l.take k).map PServer.lg ++ List.replicate (a.l.length - k) (PServer.lg ⟨[], ⟨[], none, 0⟩⟩)) [(0, _), (2, _), (5, _), (6, _), (7, _)] (0, s1, F1) (hs.sel (D := [ow s1 F1]) Q2) ⟨by rfl, by rfl, by rfl, by rfl, by rfl, trivial⟩ ⟨by rfl, by rfl, trivial⟩ ?_ ?_
 ·
  exact ⟨Nat.zero_le _, by simp [hl1]⟩
 clear hs; rintro ⟨k, s, F⟩ w ⟨hJ1, hJ2⟩ hs
 simp only [List.cons_append, List.nil_append] at hs
 refine WC.seq' ?_
 refine WC.seq ?_
 refine Qm ?_
 refine Qm ?_
 refine WL.p Q0 (Yl.len_sl slu22 Q0) ?_
 refine WL.p Q0 (Yl.lss Q0 Q0) ?_
 refine WL.next ?_
 refine WC.condS Q0 (fun h1 => ?_) (fun h1 => ?_)
 ·
  replace h1 := of_decide_eq_true h1
  obtain ⟨d, hd⟩ := exists_get (l := a.l) (k := k) Q7
  have hkl : k < s.l.length := by have := congrArg List.length hJ2; simp at this; omega
  have hle : d.lg.size ≤ 1048576 := by have := lsum_le (f := (fun x : PServer => x.lg.size)) (List.mem_of_getElem? hd); simp only [lsz] at hb; omega
  refine WC.skipn ?_
  refine WC.seq' ?_
  refine WC.block ?_
  refine WC.region ?_
  refine Qm ?_
  refine Qm ?_
  refine Qm ?_
  refine Qm ?_
  refine WL.p Q0 (Yl.indexAddr slt22 Q0 Q0 (Ph.old h_a hs) Q0 (hd)) ?_
  refine WL.p Q0 (Yl.loadA agg172 Q0 (Sl.Ok.at_ (Ph.old h_a hs) (by assumption)).2 Q0) ?_
  refine WL.call hs Q0 (Yc.func Q0 fn138) (c_laws_toServer _ _ (Ph.old (Sl.Ok.elem h_a hd) hs) Q10) ?_
  have hs0 := hs; clear hs; intro v w hb hR hs; clear hs
  obtain ⟨x2, rfl, hx2, hf2⟩ := hR
  obtain ⟨F2, hs⟩ := hf2.sat hs0 hb; clear hs0 hf2
  refine WL.p Q0 (Yl.indexAddr slt33 Q0 Q0 (hs.okow (x := s) (F := F) Q1) Q0 (List.getElem?_eq_getElem hkl)) ?_
  refine WL.s (Yr.storeE (k := k) hs Q2 Q0 Q0 Q0 (by exact hkl) ⟨_, by rfl, by rfl⟩ szf185) ?_
  clear hs; rintro _ w ⟨F3, hs⟩
  refine WL.nil ?_
  refine At.blocknormal ?_
  refine At.then_ ?_
  refine WC.region ?_
  refine Qm ?_
  refine WL.p Q0 (Yl.add Q0 Q0 Q7) ?_
  refine Qa ?_
  refine WL.nil ?_
  refine At.roundC (k + 1, ⟨s.l.set k x2, s.a, s.c⟩, _) (hs.only Q2) ⟨by rfl, by rfl, by rfl, by rfl, by rfl, trivial⟩ ⟨by rfl, by rw [Sl.v_set]; rfl, trivial⟩ ?_ ?_
  ·
   show a.l.length - (k + 1) < a.l.length - k
   omega
  ·
   exact ⟨by omega, fill_map hd hJ2 hx2⟩
 ·
  replace h1 := of_decide_eq_false h1
  refine WC.exit ?_
  refine At.thenexit ?_
  refine At.thenexit ?_
  refine At.blockexit ?_
  refine At.then_ ?_
  refine WC.seq ?_
  refine Qm ?_
  refine Qa ?_
  refine WL.next ?_
  refine WC.ret ?_
  refine fin1' rfl Q0 ?_
  refine Ret.mk hs ?_
  exact ⟨s, rfl, by rw [hJ2, show k = a.l.length from by omega]; simp, hs.fresh Q1⟩

theorem c_laws_toAddr (a : TAddr) (w : World)   : Calls Tryz.prog 15 [.agg #[S a.host, S a.path]].toArray w (RetP w (.agg (Ph.enc a).toArray)) := by
 refine enterN 11 Tryz.func15 rfl rfl rfl ?_
 have hs := Sat.start w
 refine WC.seq ?_
 refine WL.r Q0 (Yr.box hs Q0 Q0) ?_
 clear hs; rintro _ w ⟨b1, rfl, hb, hs⟩; clear hb
 refine WL.r Q0 (Yr.alloc hs zt45) ?_
 clear hs; rintro _ w ⟨b2, rfl, hb, hs⟩; clear hb
 refine WL.next ?_
 refine WC.seq ?_
 refine WL.r Q0 (Yr.alloc hs zt45) ?_
 clear hs; rintro _ w ⟨b3, rfl, hb, hs⟩; clear hb
 refine WL.next ?_
 refine WC.seq ?_
 refine WL.p Q0 (Yl.fieldAddr fa30_0 Q0) ?_
 refine WL.p Q0 (Yl.loadB sca9 Q0 hs Q1 Q0) ?_
 refine WL.p Q0 (Yl.fieldAddr fa45_0 Q0) ?_
 refine WL.s (Yr.storeB hs Q0 Q0 Q0 Q5 Q3 Q0 (by exact szf9)) ?_
 clear hs; rintro _ w hs
 refine WL.next ?_
 refine WC.seq ?_
 refine WL.p Q0 (Yl.fieldAddr fa30_1 Q0) ?_
 refine WL.p Q0 (Yl.loadB sca9 Q0 hs Q1 Q0) ?_
 refine WL.p Q0 (Yl.fieldAddr fa45_1 Q0) ?_
 refine WL.s (Yr.storeB hs Q0 Q0 Q0 Q5 Q3 Q0 (by exact szf9)) ?_
 clear hs; rintro _ w hs
 refine WL.next ?_
 refine WC.seq ?_
 refine WL.p Q0 (Yl.loadAB agg45 Q0 hs Q1 Q0 Q0) ?_
 refine WL.s (Yr.storeB hs Q0 Q0 Q0 Q5 Q3 Q0 (by exact szf45)) ?_
 clear hs; rintro _ w hs
 refine WL.next ?_
 refine WC.ret ?_
 refine fin1c rfl agg45 Q0 hs Q1 Q0 ?_
 refine RetP.mk hs ?_
 rfl

theorem c_laws_toEntry (a : TEntry) (w : World)   : Calls Tryz.prog 181 [.agg #[S a.top, S a.to.host, S a.to.path, I a.response.status, I a.response.kind, S a.response.body, I a.response.age, Bo a.response.shares, S a.response.policy, I a.until_]].toArray w (RetP w (.agg (Ph.enc a).toArray)) := by
 refine enterN 19 Tryz.func181 rfl rfl rfl ?_
 have hs := Sat.start w
 refine WC.seq ?_
 refine WL.r Q0 (Yr.box hs Q0 Q0) ?_
 clear hs; rintro _ w ⟨b1, rfl, hb, hs⟩; clear hb
 refine WL.r Q0 (Yr.alloc hs zt180) ?_
 clear hs; rintro _ w ⟨b2, rfl, hb, hs⟩; clear hb
 refine WL.next ?_
 refine WC.seq ?_
 refine WL.r Q0 (Yr.alloc hs zt180) ?_
 clear hs; rintro _ w ⟨b3, rfl, hb, hs⟩; clear hb
 refine WL.next ?_
 refine WC.seq ?_
 refine WL.p Q0 (Yl.fieldAddr fa224_0 Q0) ?_
 refine WL.p Q0 (Yl.loadB sca9 Q0 hs Q1 Q0) ?_
 refine WL.p Q0 (Yl.fieldAddr fa180_0 Q0) ?_
 refine WL.s (Yr.storeB hs Q0 Q0 Q0 Q5 Q3 Q0 (by exact szf9)) ?_
 clear hs; rintro _ w hs
 refine WL.next ?_
 refine WC.seq ?_
 refine WL.p Q0 (Yl.fieldAddr fa224_1 Q0) ?_
 refine WL.p Q0 (Yl.loadAB agg30 Q0 hs Q1 Q0 Q0) ?_
 refine WL.callp hs Q0 (Yc.func Q0 fn15) (c_laws_toAddr _ _) ?_
 clear hs; intro w hs
 refine WL.p Q0 (Yl.fieldAddr fa180_1 Q0) ?_
 refine WL.s (Yr.storeB hs Q0 Q0 Q0 Q5 Q3 Q0 (by exact szf45)) ?_
 clear hs; rintro _ w hs
 refine WL.next ?_
 refine WC.seq ?_
 refine WL.p Q0 (Yl.fieldAddr fa224_2 Q0) ?_
 refine WL.p Q0 (Yl.loadAB agg58 Q0 hs Q1 Q0 Q0) ?_
 refine WL.callp hs Q0 (Yc.func Q0 fn29) (c_laws_toResponse _ _) ?_
 clear hs; intro w hs
 refine WL.p Q0 (Yl.fieldAddr fa180_2 Q0) ?_
 refine WL.s (Yr.storeB hs Q0 Q0 Q0 Q5 Q3 Q0 (by exact szf41)) ?_
 clear hs; rintro _ w hs
 refine WL.next ?_
 refine WC.seq ?_
 refine WL.p Q0 (Yl.fieldAddr fa224_3 Q0) ?_
 refine WL.p Q0 (Yl.loadB sca3 Q0 hs Q1 Q0) ?_
 refine WL.p Q0 (Yl.fieldAddr fa180_3 Q0) ?_
 refine WL.s (Yr.storeB hs Q0 Q0 Q0 Q5 Q3 Q0 (by exact szf3)) ?_
 clear hs; rintro _ w hs
 refine WL.next ?_
 refine WC.seq ?_
 refine WL.p Q0 (Yl.loadAB agg180 Q0 hs Q1 Q0 Q0) ?_
 refine WL.s (Yr.storeB hs Q0 Q0 Q0 Q5 Q3 Q0 (by exact szf180)) ?_
 clear hs; rintro _ w hs
 refine WL.next ?_
 refine WC.ret ?_
 refine fin1c rfl agg180 Q0 hs Q1 Q0 ?_
 refine RetP.mk hs ?_
 rfl

theorem c_laws_toEntryS (a : (Sl TEntry)) (w : World) (h_a : Ph.ok w a) (hb : a.l.length ≤ 1048576) : Calls Tryz.prog 139 [Sl.v a].toArray w (Ret w (fun v w' => ∃ x : Sl TEntry, v = x.v ∧ x.l = a.l ∧ Fresh w x w')) := by
 have hw := h_a.lt
 refine enterN 23 Tryz.func139 rfl rfl rfl ?_
 have hs := Sat.start w
 refine WC.seq ?_
 refine Qa ?_
 refine WL.next ?_
 refine WC.seq ?_
 refine Qm ?_
 refine WL.p Q0 (Yl.len_sl slu23 Q0) ?_
 refine WL.r Q0 (Yr.makeSlice (z := (⟨[], ⟨[], []⟩, ⟨0, 0, [], 0, false, []⟩, 0⟩ : TEntry)) (bytes := 120) hs elt34 Q0 Q0 Q7 (by unfold maxLen; omega)) ?_
 clear hs; rintro _ w ⟨s1, F1, rfl, hl1, hb, hs⟩; clear hb
 refine Qa ?_
 refine WL.next ?_
 refine WC.seq' ?_
 refine WC.seq ?_
 refine Qa ?_
 refine WL.next ?_
 refine WC.block ?_
 refine WC.loopC (ι := Nat × Sl TEntry × List Nat) (fun ⟨k, s, F⟩ => a.l.length - k) (fun ⟨k, s, F⟩ => [(4, I (k : Int)), (3, s.v)]) (fun ⟨k, s, F⟩ => [ow s F]) (fun ⟨k, s, F⟩ => k ≤ a.l.length ∧ s.l = a.l.take k ++ List.replicate (a.l.length - k) (⟨[], ⟨[], []⟩, ⟨0, 0, [], 0, false, []⟩, 0⟩ : TEntry)) [(0, _), (2, _), (5, _), (6, _), (7, _)] (0, s1, F1) (hs.sel (D := [ow s1 F1]) Q2) ⟨by rfl, by rfl, by rfl, by rfl, by rfl, trivial⟩ ⟨by rfl, by rfl, trivial⟩ ?_ ?_
 ·
  exact ⟨Nat.zero_le _, by simp [hl1]⟩
 clear hs; rintro ⟨k, s, F⟩ w ⟨hJ1, hJ2⟩ hs
 simp only [List.cons_append, List.nil_append] at hs
 refine WC.seq' ?_
 refine WC.seq ?_
 refine Qm ?_
 refine Qm ?_
 refine WL.p Q0 (Yl.len_sl slu23 Q0) ?_
 refine WL.p Q0 (Yl.lss Q0 Q0) ?_
 refine WL.next ?_
 refine WC.condS Q0 (fun h1 => ?_) (fun h1 => ?_)
 ·
  replace h1 := of_decide_eq_true h1
  obtain ⟨d, hd⟩ := exists_get (l := a.l) (k := k) Q7
  have hkl : k < s.l.length := by rw [hJ2]; simp; omega
  refine WC.skipn ?_
  refine WC.seq' ?_
  refine WC.block ?_
  refine WC.region ?_
  refine Qm ?_
  refine Qm ?_
  refine Qm ?_
  refine Qm ?_
  refine WL.p Q0 (Yl.indexAddr slt23 Q0 Q0 (Ph.old h_a hs) Q0 (hd)) ?_
  refine WL.p Q0 (Yl.loadA agg224 Q0 (Sl.Ok.at_ (Ph.old h_a hs) (by assumption)).2 Q0) ?_
  refine WL.callp hs Q0 (Yc.func Q0 fn181) (c_laws_toEntry _ _) ?_
  clear hs; intro w hs
  refine WL.p Q0 (Yl.indexAddr slt34 Q0 Q0 (hs.okow (x := s) (F := F) Q1) Q0 (List.getElem?_eq_getElem hkl)) ?_
  refine WL.s (Yr.storeE (k := k) (hs.flat (by first | assumption | (refine Ph.old ?_ hs; assumption) | (refine Ph.old (Sl.Ok.elem ?_ (by assumption)) hs; assumption))) Q2 Q0 Q0 Q0 (by exact hkl) ⟨_, by rfl, by rfl⟩ szf180) ?_
  clear hs; rintro _ w ⟨F2, hs⟩
  refine WL.nil ?_
  refine At.blocknormal ?_
  refine At.then_ ?_
  refine WC.region ?_
  refine Qm ?_
  refine WL.p Q0 (Yl.add Q0 Q0 Q7) ?_
  refine Qa ?_
  refine WL.nil ?_
  refine At.roundC (k + 1, ⟨s.l.set k d, s.a, s.c⟩, _) (hs.only Q2) ⟨by rfl, by rfl, by rfl, by rfl, by rfl, trivial⟩ ⟨by rfl, by rw [Sl.v_set]; rfl, trivial⟩ ?_ ?_
  ·
   show a.l.length - (k + 1) < a.l.length - k
   omega
  ·
   exact ⟨by omega, by simp only [hJ2]; exact fill_step hd⟩
 ·
  replace h1 := of_decide_eq_false h1
  refine WC.exit ?_
  refine At.thenexit ?_
  refine At.thenexit ?_
  refine At.blockexit ?_
  refine At.then_ ?_
  refine WC.seq ?_
  refine Qm ?_
  refine Qa ?_
  refine WL.next ?_
  refine WC.ret ?_
  refine fin1' rfl Q0 ?_
  refine Ret.mk hs ?_
  exact ⟨s, rfl, by rw [hJ2, show k = a.l.length from by omega]; simp, hs.fresh Q1⟩

theorem c_laws_toCache (a : PCache) (w : World) (h_a : Ph.ok w a) (hb : a.lg.size ≤ 1048576) : Calls Tryz.prog 69 [.agg #[Sl.v a.entries]].toArray w (Ret w (fun v w' => ∃ x : PCache, v = .agg (Ph.enc x).toArray ∧ x.lg = a.lg ∧ Fresh w x w')) := by
 refine enterN 9 Tryz.func69 rfl rfl rfl ?_
 have hs := Sat.start w
 refine WC.seq ?_
 refine WL.r Q0 (Yr.box hs Q0 Q0) ?_
 clear hs; rintro _ w ⟨b1, rfl, hb, hs⟩; clear hb
 refine WL.r Q0 (Yr.alloc hs zt36) ?_
 clear hs; rintro _ w ⟨b2, rfl, hb, hs⟩; clear hb
 refine WL.next ?_
 refine WC.seq ?_
 refine WL.r Q0 (Yr.alloc hs zt36) ?_
 clear hs; rintro _ w ⟨b3, rfl, hb, hs⟩; clear hb
 refine WL.next ?_
 refine WC.seq ?_
 refine WL.p Q0 (Yl.fieldAddr fa25_0 Q0) ?_
 refine WL.p Q0 (Yl.loadB sca23 Q0 hs Q1 Q0) ?_
 refine WL.call hs Q0 (Yc.func Q0 fn139) (c_laws_toEntryS _ _ (Ph.old h_a.entries hs) Q10) ?_
 have hs0 := hs; clear hs; intro v w hb hR hs; clear hs
 obtain ⟨x4, rfl, hx4, hf4⟩ := hR
 obtain ⟨F4, hs⟩ := hf4.sat hs0 hb; clear hs0 hf4
 have hle4 := Sl.Ok.le (hs.okow (x := x4) (F := F4) Q1)
 refine WL.p Q0 (Yl.fieldAddr fa36_0 Q0) ?_
 refine WL.s (Yr.storeB hs Q0 Q0 Q0 Q5 Q3 Q0 (by exact szf34)) ?_
 clear hs; rintro _ w hs
 refine WL.next ?_
 refine WC.seq ?_
 refine WL.p Q0 (Yl.loadAB agg36 Q0 hs Q1 Q0 Q0) ?_
 refine WL.s (Yr.storeB hs Q0 Q0 Q0 Q5 Q3 Q0 (by exact szf36)) ?_
 clear hs; rintro _ w hs
 refine WL.next ?_
 refine WC.ret ?_
 refine fin1c rfl agg36 Q0 hs Q1 Q0 ?_
 refine Ret.mk hs ?_
 refine ⟨⟨x4⟩, rfl, ?_, ?_⟩
 · simp_all
 · exact (PCache.join _ (hs.only (D := [ow x4 F4]) Q2) ).fresh List.mem_cons_self

theorem c_laws_toSent (a : TSent) (w : World)   : Calls Tryz.prog 140 [.agg #[S a.top, S a.to.host, S a.to.path, Bo a.guess]].toArray w (RetP w (.agg (Ph.enc a).toArray)) := by
 refine enterN 15 Tryz.func140 rfl rfl rfl ?_
 have hs := Sat.start w
 refine WC.seq ?_
 refine WL.r Q0 (Yr.box hs Q0 Q0) ?_
 clear hs; rintro _ w ⟨b1, rfl, hb, hs⟩; clear hb
 refine WL.r Q0 (Yr.alloc hs zt123) ?_
 clear hs; rintro _ w ⟨b2, rfl, hb, hs⟩; clear hb
 refine WL.next ?_
 refine WC.seq ?_
 refine WL.r Q0 (Yr.alloc hs zt123) ?_
 clear hs; rintro _ w ⟨b3, rfl, hb, hs⟩; clear hb
 refine WL.next ?_
 refine WC.seq ?_
 refine WL.p Q0 (Yl.fieldAddr fa176_0 Q0) ?_
 refine WL.p Q0 (Yl.loadB sca9 Q0 hs Q1 Q0) ?_
 refine WL.p Q0 (Yl.fieldAddr fa123_0 Q0) ?_
 refine WL.s (Yr.storeB hs Q0 Q0 Q0 Q5 Q3 Q0 (by exact szf9)) ?_
 clear hs; rintro _ w hs
 refine WL.next ?_
 refine WC.seq ?_
 refine WL.p Q0 (Yl.fieldAddr fa176_1 Q0) ?_
 refine WL.p Q0 (Yl.loadAB agg30 Q0 hs Q1 Q0 Q0) ?_
 refine WL.callp hs Q0 (Yc.func Q0 fn15) (c_laws_toAddr _ _) ?_
 clear hs; intro w hs
 refine WL.p Q0 (Yl.fieldAddr fa123_1 Q0) ?_
 refine WL.s (Yr.storeB hs Q0 Q0 Q0 Q5 Q3 Q0 (by exact szf45)) ?_
 clear hs; rintro _ w hs
 refine WL.next ?_
 refine WC.seq ?_
 refine WL.p Q0 (Yl.fieldAddr fa176_2 Q0) ?_
 refine WL.p Q0 (Yl.loadB sca4 Q0 hs Q1 Q0) ?_
 refine WL.p Q0 (Yl.fieldAddr fa123_2 Q0) ?_
 refine WL.s (Yr.storeB hs Q0 Q0 Q0 Q5 Q3 Q0 (by exact szf4)) ?_
 clear hs; rintro _ w hs
 refine WL.next ?_
 refine WC.seq ?_
 refine WL.p Q0 (Yl.loadAB agg123 Q0 hs Q1 Q0 Q0) ?_
 refine WL.s (Yr.storeB hs Q0 Q0 Q0 Q5 Q3 Q0 (by exact szf123)) ?_
 clear hs; rintro _ w hs
 refine WL.next ?_
 refine WC.ret ?_
 refine fin1c rfl agg123 Q0 hs Q1 Q0 ?_
 refine RetP.mk hs ?_
 rfl

theorem c_laws_toSentS (a : (Sl TSent)) (w : World) (h_a : Ph.ok w a) (hb : a.l.length ≤ 1048576) : Calls Tryz.prog 70 [Sl.v a].toArray w (Ret w (fun v w' => ∃ x : Sl TSent, v = x.v ∧ x.l = a.l ∧ Fresh w x w')) := by
 have hw := h_a.lt
 refine enterN 23 Tryz.func70 rfl rfl rfl ?_
 have hs := Sat.start w
 refine WC.seq ?_
 refine Qa ?_
 refine WL.next ?_
 refine WC.seq ?_
 refine Qm ?_
 refine WL.p Q0 (Yl.len_sl slu26 Q0) ?_
 refine WL.r Q0 (Yr.makeSlice (z := (⟨[], ⟨[], []⟩, false⟩ : TSent)) (bytes := 56) hs elt37 Q0 Q0 Q7 (by unfold maxLen; omega)) ?_
 clear hs; rintro _ w ⟨s1, F1, rfl, hl1, hb, hs⟩; clear hb
 refine Qa ?_
 refine WL.next ?_
 refine WC.seq' ?_
 refine WC.seq ?_
 refine Qa ?_
 refine WL.next ?_
 refine WC.block ?_
 refine WC.loopC (ι := Nat × Sl TSent × List Nat) (fun ⟨k, s, F⟩ => a.l.length - k) (fun ⟨k, s, F⟩ => [(4, I (k : Int)), (3, s.v)]) (fun ⟨k, s, F⟩ => [ow s F]) (fun ⟨k, s, F⟩ => k ≤ a.l.length ∧ s.l = a.l.take k ++ List.replicate (a.l.length - k) (⟨[], ⟨[], []⟩, false⟩ : TSent)) [(0, _), (2, _), (5, _), (6, _), (7, _)] (0, s1, F1) (hs.sel (D := [ow s1 F1]) Q2) ⟨by rfl, by rfl, by rfl, by rfl, by rfl, trivial⟩ ⟨by rfl, by rfl, trivial⟩ ?_ ?_
 ·
  exact ⟨Nat.zero_le _, by simp [hl1]⟩
 clear hs; rintro ⟨k, s, F⟩ w ⟨hJ1, hJ2⟩ hs
 simp only [List.cons_append, List.nil_append] at hs
 refine WC.seq' ?_
 refine WC.seq ?_
 refine Qm ?_
 refine Qm ?_
 refine WL.p Q0 (Yl.len_sl slu26 Q0) ?_
 refine WL.p Q0 (Yl.lss Q0 Q0) ?_
 refine WL.next ?_
 refine WC.condS Q0 (fun h1 => ?_) (fun h1 => ?_)
 ·
  replace h1 := of_decide_eq_true h1
  obtain ⟨d, hd⟩ := exists_get (l := a.l) (k := k) Q7
  have hkl : k < s.l.length := by rw [hJ2]; simp; omega
  refine WC.skipn ?_
  refine WC.seq' ?_
  refine WC.block ?_
  refine WC.region ?_
  refine Qm ?_
  refine Qm ?_
  refine Qm ?_
  refine Qm ?_
  refine WL.p Q0 (Yl.indexAddr slt26 Q0 Q0 (Ph.old h_a hs) Q0 (hd)) ?_
  refine WL.p Q0 (Yl.loadA agg176 Q0 (Sl.Ok.at_ (Ph.old h_a hs) (by assumption)).2 Q0) ?_
  refine WL.callp hs Q0 (Yc.func Q0 fn140) (c_laws_toSent _ _) ?_
  clear hs; intro w hs
  refine WL.p Q0 (Yl.indexAddr slt37 Q0 Q0 (hs.okow (x := s) (F := F) Q1) Q0 (List.getElem?_eq_getElem hkl)) ?_
  refine WL.s (Yr.storeE (k := k) (hs.flat (by first | assumption | (refine Ph.old ?_ hs; assumption) | (refine Ph.old (Sl.Ok.elem ?_ (by assumption)) hs; assumption))) Q2 Q0 Q0 Q0 (by exact hkl) ⟨_, by rfl, by rfl⟩ szf123) ?_
  clear hs; rintro _ w ⟨F2, hs⟩
  refine WL.nil ?_
  refine At.blocknormal ?_
  refine At.then_ ?_
  refine WC.region ?_
  refine Qm ?_
  refine WL.p Q0 (Yl.add Q0 Q0 Q7) ?_
  refine Qa ?_
  refine WL.nil ?_
  refine At.roundC (k + 1, ⟨s.l.set k d, s.a, s.c⟩, _) (hs.only Q2) ⟨by rfl, by rfl, by rfl, by rfl, by rfl, trivial⟩ ⟨by rfl, by rw [Sl.v_set]; rfl, trivial⟩ ?_ ?_
  ·
   show a.l.length - (k + 1) < a.l.length - k
   omega
  ·
   exact ⟨by omega, by simp only [hJ2]; exact fill_step hd⟩
 ·
  replace h1 := of_decide_eq_false h1
  refine WC.exit ?_
  refine At.thenexit ?_
  refine At.thenexit ?_
  refine At.blockexit ?_
  refine At.then_ ?_
  refine WC.seq ?_
  refine Qm ?_
  refine Qa ?_
  refine WL.next ?_
  refine WC.ret ?_
  refine fin1' rfl Q0 ?_
  refine Ret.mk hs ?_
  exact ⟨s, rfl, by rw [hJ2, show k = a.l.length from by omega]; simp, hs.fresh Q1⟩

theorem c_laws_toNet (a : PNet) (w : World) (h_a : Ph.ok w a) (hb : a.lg.size ≤ 1048576) : Calls Tryz.prog 14 [.agg #[Sl.v a.servers, Sl.v a.cache.entries, Sl.v a.log, I a.now]].toArray w (Ret w (fun v w' => ∃ x : PNet, v = .agg (Ph.enc x).toArray ∧ x.lg = a.lg ∧ Fresh w x w')) := by
 refine enterN 20 Tryz.func14 rfl rfl rfl ?_
 have hs := Sat.start w
 refine WC.seq ?_
 refine WL.r Q0 (Yr.box hs Q0 Q0) ?_
 clear hs; rintro _ w ⟨b1, rfl, hb, hs⟩; clear hb
 refine WL.r Q0 (Yr.alloc hs zt39) ?_
 clear hs; rintro _ w ⟨b2, rfl, hb, hs⟩; clear hb
 refine WL.next ?_
 refine WC.seq ?_
 refine WL.r Q0 (Yr.alloc hs zt39) ?_
 clear hs; rintro _ w ⟨b3, rfl, hb, hs⟩; clear hb
 refine WL.next ?_
 refine WC.seq ?_
 refine WL.p Q0 (Yl.fieldAddr fa28_0 Q0) ?_
 refine WL.p Q0 (Yl.loadB sca22 Q0 hs Q1 Q0) ?_
 refine WL.call hs Q0 (Yc.func Q0 fn68) (c_laws_toServerS _ _ (Ph.old h_a.servers hs) Q10) ?_
 have hs0 := hs; clear hs; intro v w hb hR hs; clear hs
 obtain ⟨x4, rfl, hx4, hf4⟩ := hR
 obtain ⟨F4, hs⟩ := hf4.sat hs0 hb; clear hs0 hf4
 have hle4 := Sl.Ok.le (hs.okow (x := x4) (F := F4) Q1)
 refine WL.p Q0 (Yl.fieldAddr fa39_0 Q0) ?_
 refine WL.s (Yr.storeB hs Q0 Q0 Q0 Q5 Q3 Q0 (by exact szf33)) ?_
 clear hs; rintro _ w hs
 refine WL.next ?_
 refine WC.seq ?_
 refine WL.p Q0 (Yl.fieldAddr fa28_1 Q0) ?_
 refine WL.p Q0 (Yl.loadAB agg25 Q0 hs Q1 Q0 Q0) ?_
 refine WL.call hs Q0 (Yc.func Q0 fn69) (c_laws_toCache _ _ ⟨(Ph.old h_a.cache.entries hs)⟩ Q10) ?_
 have hs0 := hs; clear hs; intro v w hb hR hs; clear hs
 obtain ⟨x5, rfl, hx5, hf5⟩ := hR
 obtain ⟨F5, hs⟩ := hf5.sat hs0 hb; clear hs0 hf5
 refine WL.p Q0 (Yl.fieldAddr fa39_1 Q0) ?_
 refine WL.s (Yr.storeB hs Q0 Q0 Q0 Q5 Q3 Q0 (by exact szf36)) ?_
 clear hs; rintro _ w hs
 refine WL.next ?_
 refine WC.seq ?_
 refine WL.p Q0 (Yl.fieldAddr fa28_2 Q0) ?_
 refine WL.p Q0 (Yl.loadB sca26 Q0 hs Q1 Q0) ?_
 refine WL.call hs Q0 (Yc.func Q0 fn70) (c_laws_toSentS _ _ (Ph.old h_a.log hs) Q10) ?_
 have hs0 := hs; clear hs; intro v w hb hR hs; clear hs
 obtain ⟨x6, rfl, hx6, hf6⟩ := hR
 obtain ⟨F6, hs⟩ := hf6.sat hs0 hb; clear hs0 hf6
 have hle6 := Sl.Ok.le (hs.okow (x := x6) (F := F6) Q1)
 refine WL.p Q0 (Yl.fieldAddr fa39_2 Q0) ?_
 refine WL.s (Yr.storeB hs Q0 Q0 Q0 Q5 Q3 Q0 (by exact szf37)) ?_
 clear hs; rintro _ w hs
 refine WL.next ?_
 refine WC.seq ?_
 refine WL.p Q0 (Yl.fieldAddr fa28_3 Q0) ?_
 refine WL.p Q0 (Yl.loadB sca3 Q0 hs Q1 Q0) ?_
 refine WL.p Q0 (Yl.fieldAddr fa39_3 Q0) ?_
 refine WL.s (Yr.storeB hs Q0 Q0 Q0 Q5 Q3 Q0 (by exact szf3)) ?_
 clear hs; rintro _ w hs
 refine WL.next ?_
 refine WC.seq ?_
 refine WL.p Q0 (Yl.loadAB agg39 Q0 hs Q1 Q0 Q0) ?_
 refine WL.s (Yr.storeB hs Q0 Q0 Q0 Q5 Q3 Q0 (by exact szf39)) ?_
 clear hs; rintro _ w hs
 refine WL.next ?_
 refine WC.ret ?_
 refine fin1c rfl agg39 Q0 hs Q1 Q0 ?_
 refine Ret.mk hs ?_
 refine ⟨⟨x4, x5, x6, _⟩, rfl, ?_, ?_⟩
 · simp_all
 · exact (PNet.join _ (hs.only (D := [ow x4 F4, ow x5 F5, ow x6 F6]) Q2) (by first | exact Ph.old h_a.now hs | trivial | assumption | exact Nat.zero_le _)).fresh List.mem_cons_self

theorem c_laws_eqResponse (a : TResponse) (b : TResponse) (w : World)   : Calls Tryz.prog 18 [.agg #[I a.status, I a.kind, S a.body, I a.age, Bo a.shares, S a.policy], .agg #[I b.status, I b.kind, S b.body, I b.age, Bo b.shares, S b.policy]].toArray w (RetP w (Bo (decide (a = b)))) := by
 refine enterN 35 Tryz.func18 rfl rfl rfl ?_
 have hs := Sat.start w
 refine WC.seq ?_
 refine WL.r Q0 (Yr.box hs Q0 Q0) ?_
 clear hs; rintro _ w ⟨b1, rfl, hb, hs⟩; clear hb
 refine WL.r Q0 (Yr.box hs Q0 Q0) ?_
 clear hs; rintro _ w ⟨b2, rfl, hb, hs⟩; clear hb
 refine Qa ?_
 refine WL.next ?_
 refine WC.seq' ?_
 refine WC.seq ?_
 refine WL.p Q0 (Yl.fieldAddr fa41_0 Q0) ?_
 refine WL.p Q0 (Yl.loadB sca3 Q0 hs Q1 Q0) ?_
 refine WL.p Q0 (Yl.fieldAddr fa41_0 Q0) ?_
 refine WL.p Q0 (Yl.loadB sca3 Q0 hs Q1 Q0) ?_
 refine WL.p Q0 (Yl.nei Q0 Q0) ?_
 refine WL.next ?_
 refine WC.condS Q0 (fun h1 => ?_) (fun h1 => ?_)
 ·
  replace h1 := not_eq_true h1
  replace h1 := of_decide_eq_false h1
  refine WC.seq ?_
  refine Qa ?_
  refine WL.next ?_
  refine WC.ret ?_
  refine At.thenret ?_
  refine fin1' rfl Q0 ?_
  refine RetP.mk hs ?_
  simp_all [TResponse.ext_iff]
 ·
  replace h1 := not_eq_false h1
  replace h1 := of_decide_eq_true h1
  refine WC.skipn ?_
  refine WC.seq' ?_
  refine WC.seq ?_
  refine WL.p Q0 (Yl.fieldAddr fa41_1 Q0) ?_
  refine WL.p Q0 (Yl.loadB sca3 Q0 hs Q1 Q0) ?_
  refine WL.p Q0 (Yl.fieldAddr fa41_1 Q0) ?_
  refine WL.p Q0 (Yl.loadB sca3 Q0 hs Q1 Q0) ?_
  refine WL.p Q0 (Yl.nei Q0 Q0) ?_
  refine WL.next ?_
  refine WC.condS Q0 (fun h2 => ?_) (fun h2 => ?_)
  ·
   replace h2 := not_eq_true h2
   replace h2 := of_decide_eq_false h2
   refine WC.seq ?_
   refine Qa ?_
   refine WL.next ?_
   refine WC.ret ?_
   refine At.thenret ?_
   refine fin1' rfl Q0 ?_
   refine RetP.mk hs ?_
   simp_all [TResponse.ext_iff]
  ·
   replace h2 := not_eq_false h2
   replace h2 := of_decide_eq_true h2
   refine WC.skipn ?_
   refine WC.seq' ?_
   refine WC.seq ?_
   refine WL.p Q0 (Yl.fieldAddr fa41_2 Q0) ?_
   refine WL.p Q0 (Yl.loadB sca9 Q0 hs Q1 Q0) ?_
   refine WL.p Q0 (Yl.fieldAddr fa41_2 Q0) ?_
   refine WL.p Q0 (Yl.loadB sca9 Q0 hs Q1 Q0) ?_
   refine WL.p Q0 (Yl.nes Q0 Q0) ?_
   refine WL.next ?_
   refine WC.condS Q0 (fun h3 => ?_) (fun h3 => ?_)
   ·
    replace h3 := not_eq_true h3
    replace h3 := of_decide_eq_false h3
    refine WC.seq ?_
    refine Qa ?_
    refine WL.next ?_
    refine WC.ret ?_
    refine At.thenret ?_
    refine fin1' rfl Q0 ?_
    refine RetP.mk hs ?_
    simp_all [TResponse.ext_iff]
   ·
    replace h3 := not_eq_false h3
    replace h3 := of_decide_eq_true h3
    refine WC.skipn ?_
    refine WC.seq' ?_
    refine WC.seq ?_
    refine WL.p Q0 (Yl.fieldAddr fa41_3 Q0) ?_
    refine WL.p Q0 (Yl.loadB sca3 Q0 hs Q1 Q0) ?_
    refine WL.p Q0 (Yl.fieldAddr fa41_3 Q0) ?_
    refine WL.p Q0 (Yl.loadB sca3 Q0 hs Q1 Q0) ?_
    refine WL.p Q0 (Yl.nei Q0 Q0) ?_
    refine WL.next ?_
    refine WC.condS Q0 (fun h4 => ?_) (fun h4 => ?_)
    ·
     replace h4 := not_eq_true h4
     replace h4 := of_decide_eq_false h4
     refine WC.seq ?_
     refine Qa ?_
     refine WL.next ?_
     refine WC.ret ?_
     refine At.thenret ?_
     refine fin1' rfl Q0 ?_
     refine RetP.mk hs ?_
     simp_all [TResponse.ext_iff]
    ·
     replace h4 := not_eq_false h4
     replace h4 := of_decide_eq_true h4
     refine WC.skipn ?_
     refine WC.seq' ?_
     refine WC.seq ?_
     refine WL.p Q0 (Yl.fieldAddr fa41_4 Q0) ?_
     refine WL.p Q0 (Yl.loadB sca4 Q0 hs Q1 Q0) ?_
     refine WL.p Q0 (Yl.fieldAddr fa41_4 Q0) ?_
     refine WL.p Q0 (Yl.loadB sca4 Q0 hs Q1 Q0) ?_
     refine WL.p Q0 (Yl.neb bool4 Q0 Q0) ?_
     refine WL.next ?_
     refine WC.condS Q0 (fun h5 => ?_) (fun h5 => ?_)
     ·
      replace h5 := not_eq_true h5
      replace h5 := beq_false h5
      refine WC.seq ?_
      refine Qa ?_
      refine WL.next ?_
      refine WC.ret ?_
      refine At.thenret ?_
      refine fin1' rfl Q0 ?_
      refine RetP.mk hs ?_
      simp_all [TResponse.ext_iff]
     ·
      replace h5 := not_eq_false h5
      replace h5 := beq_true h5
      refine WC.skipn ?_
      refine WC.seq' ?_
      refine WC.seq ?_
      refine WL.p Q0 (Yl.fieldAddr fa41_5 Q0) ?_
      refine WL.p Q0 (Yl.loadB sca9 Q0 hs Q1 Q0) ?_
      refine WL.p Q0 (Yl.fieldAddr fa41_5 Q0) ?_
      refine WL.p Q0 (Yl.loadB sca9 Q0 hs Q1 Q0) ?_
      refine WL.p Q0 (Yl.nes Q0 Q0) ?_
      refine WL.next ?_
      refine WC.condS Q0 (fun h6 => ?_) (fun h6 => ?_)
      ·
       replace h6 := not_eq_true h6
       replace h6 := of_decide_eq_false h6
       refine WC.seq ?_
       refine Qa ?_
       refine WL.next ?_
       refine WC.ret ?_
       refine At.thenret ?_
       refine fin1' rfl Q0 ?_
       refine RetP.mk hs ?_
       simp_all [TResponse.ext_iff]
      ·
       replace h6 := not_eq_false h6
       replace h6 := of_decide_eq_true h6
       refine WC.skipn ?_
       refine WC.seq ?_
       refine Qa ?_
       refine WL.next ?_
       refine WC.ret ?_
       refine fin1' rfl Q0 ?_
       refine RetP.mk hs ?_
       simp_all [TResponse.ext_iff]

theorem c_laws_eqFile (a : TFile) (b : TFile) (w : World)   : Calls Tryz.prog 215 [.agg #[S a.path, I a.response.status, I a.response.kind, S a.response.body, I a.response.age, Bo a.response.shares, S a.response.policy], .agg #[S b.path, I b.response.status, I b.response.kind, S b.response.body, I b.response.age, Bo b.response.shares, S b.response.policy]].toArray w (RetP w (Bo (decide (a = b)))) := by
 refine enterN 16 Tryz.func215 rfl rfl rfl ?_
 have hs := Sat.start w
 refine WC.seq ?_
 refine WL.r Q0 (Yr.box hs Q0 Q0) ?_
 clear hs; rintro _ w ⟨b1, rfl, hb, hs⟩; clear hb
 refine WL.r Q0 (Yr.box hs Q0 Q0) ?_
 clear hs; rintro _ w ⟨b2, rfl, hb, hs⟩; clear hb
 refine Qa ?_
 refine WL.next ?_
 refine WC.seq' ?_
 refine WC.seq ?_
 refine WL.p Q0 (Yl.fieldAddr fa187_0 Q0) ?_
 refine WL.p Q0 (Yl.loadB sca9 Q0 hs Q1 Q0) ?_
 refine WL.p Q0 (Yl.fieldAddr fa187_0 Q0) ?_
 refine WL.p Q0 (Yl.loadB sca9 Q0 hs Q1 Q0) ?_
 refine WL.p Q0 (Yl.nes Q0 Q0) ?_
 refine WL.next ?_
 refine WC.condS Q0 (fun h1 => ?_) (fun h1 => ?_)
 ·
  replace h1 := not_eq_true h1
  replace h1 := of_decide_eq_false h1
  refine WC.seq ?_
  refine Qa ?_
  refine WL.next ?_
  refine WC.ret ?_
  refine At.thenret ?_
  refine fin1' rfl Q0 ?_
  refine RetP.mk hs ?_
  simp_all [TFile.ext_iff]
 ·
  replace h1 := not_eq_false h1
  replace h1 := of_decide_eq_true h1
  refine WC.skipn ?_
  refine WC.seq' ?_
  refine WC.seq ?_
  refine WL.p Q0 (Yl.fieldAddr fa187_1 Q0) ?_
  refine WL.p Q0 (Yl.loadAB agg41 Q0 hs Q1 Q0 Q0) ?_
  refine WL.p Q0 (Yl.fieldAddr fa187_1 Q0) ?_
  refine WL.p Q0 (Yl.loadAB agg41 Q0 hs Q1 Q0 Q0) ?_
  refine WL.callp hs Q0 (Yc.func Q0 fn18) (c_laws_eqResponse _ _ _) ?_
  clear hs; intro w hs
  refine WL.p Q0 (Yl.not Q0) ?_
  refine WL.next ?_
  refine WC.condS Q0 (fun h2 => ?_) (fun h2 => ?_)
  ·
   replace h2 := not_eq_true h2
   replace h2 := of_decide_eq_false h2
   refine WC.seq ?_
   refine Qa ?_
   refine WL.next ?_
   refine WC.ret ?_
   refine At.thenret ?_
   refine fin1' rfl Q0 ?_
   refine RetP.mk hs ?_
   simp_all [TFile.ext_iff]
  ·
   replace h2 := not_eq_false h2
   replace h2 := of_decide_eq_true h2
   refine WC.skipn ?_
   refine WC.seq ?_
   refine Qa ?_
   refine WL.next ?_
   refine WC.ret ?_
   refine fin1' rfl Q0 ?_
   refine RetP.mk hs ?_
   simp_all [TFile.ext_iff]

theorem c_laws_eqFileS (a : (Sl TFile)) (b : (Sl TFile)) (w : World) (h_a : Ph.ok w a) (h_b : Ph.ok w b)  : Calls Tryz.prog 186 [Sl.v a, Sl.v b].toArray w (RetP w (Bo (decide (a.l = b.l)))) := by
 have hw := h_a.lt
 refine enterN 27 Tryz.func186 rfl rfl rfl ?_
 have hs := Sat.start w
 refine WC.seq ?_
 refine Qa ?_
 refine WL.next ?_
 refine WC.seq' ?_
 refine WC.seq ?_
 refine Qm ?_
 refine WL.p Q0 (Yl.len_sl slu183 Q0) ?_
 refine Qm ?_
 refine WL.p Q0 (Yl.len_sl slu183 Q0) ?_
 refine WL.p Q0 (Yl.nei Q0 Q0) ?_
 refine WL.next ?_
 refine WC.condS Q0 (fun h1 => ?_) (fun h1 => ?_)
 ·
  replace h1 := not_eq_true h1
  replace h1 := of_decide_eq_false h1
  refine WC.seq ?_
  refine Qa ?_
  refine WL.next ?_
  refine WC.ret ?_
  refine At.thenret ?_
  refine fin1' rfl Q0 ?_
  refine RetP.mk hs ?_
  have hne : ¬ a.l = b.l := by
   intro h
   have h2 := congrArg List.length h
   try simp at h2
   omega
  simp only [hne, decide_false]
 ·
  replace h1 := not_eq_false h1
  replace h1 := of_decide_eq_true h1
  refine WC.skipn ?_
  refine WC.seq' ?_
  refine WC.seq ?_
  refine Qa ?_
  refine WL.next ?_
  refine WC.block ?_
  refine WC.loopC (ι := Nat) (fun k => a.l.length - k) (fun k => [(5, I (k : Int))]) (fun _ => []) (fun k => decide (a.l = b.l) = decide (a.l.drop k = b.l.drop k)) [(0, _), (1, _), (6, _), (7, _), (8, _), (9, _), (10, _)] 0 (hs) ⟨by rfl, by rfl, by rfl, by rfl, by rfl, by rfl, by rfl, trivial⟩ ⟨by rfl, trivial⟩ ?_ ?_
  ·
   simp
  clear hs; rintro k w hJ hs
  simp only [List.nil_append] at hs
  refine WC.seq' ?_
  refine WC.seq ?_
  refine Qm ?_
  refine Qm ?_
  refine WL.p Q0 (Yl.len_sl slu183 Q0) ?_
  refine WL.p Q0 (Yl.lss Q0 Q0) ?_
  refine WL.next ?_
  refine WC.condS Q0 (fun h2 => ?_) (fun h2 => ?_)
  ·
   replace h2 := of_decide_eq_true h2
   obtain ⟨d, hd⟩ := exists_get (l := a.l) (k := k) Q7
   obtain ⟨d2, hd2⟩ := exists_get (l := b.l) (k := k) Q7
   rw [drop_cons hd, drop_cons hd2] at hJ
   refine WC.skipn ?_
   refine WC.seq' ?_
   refine WC.block ?_
   refine WC.quietn mixed Q6 hs ?_
   refine WQ.p Q0 (fun w hs => Yl.move Q0) ?_
   refine WQ.p Q0 (fun w hs => Yl.move Q0) ?_
   refine WQ.p Q0 (fun w hs => Yl.indexAddr slt183 Q0 Q0 (Ph.old h_a hs) Q0 (hd)) ?_
   refine WQ.p Q0 (fun w hs => Yl.loadA agg187 Q0 (Sl.Ok.at_ (Ph.old h_a hs) (by assumption)).2 Q0) ?_
   refine WQ.p Q0 (fun w hs => Yl.move Q0) ?_
   refine WQ.p Q0 (fun w hs => Yl.move Q0) ?_
   refine WQ.p Q0 (fun w hs => Yl.indexAddr slt183 Q0 Q0 (Ph.old h_b hs) Q0 (hd2)) ?_
   refine WQ.p Q0 (fun w hs => Yl.loadA agg187 Q0 (Sl.Ok.at_ (Ph.old h_b hs) (by assumption)).2 Q0) ?_
   refine WQ.callp Q0 (fun w => Yc.func Q0 fn215) (fun w hs => (c_laws_eqFile _ _ _)) (fun _ _ hs hb => hs.ext hb) ?_
   refine WQ.p Q0 (fun w hs => Yl.not Q0) ?_
   refine WQ.next ?_
   clear hs; intro w hs
   refine WC.condS Q0 (fun h3 => ?_) (fun h3 => ?_)
   ·
    replace h3 := not_eq_true h3
    replace h3 := of_decide_eq_false h3
    refine WC.seq ?_
    refine Qa ?_
    refine WL.next ?_
    refine WC.ret ?_
    refine At.blockret ?_
    refine At.thenret ?_
    refine At.thenret ?_
    refine At.blockret ?_
    refine At.thenret ?_
    refine fin1' rfl Q0 ?_
    refine RetP.mk hs ?_
    rw [hJ]; simp_all
   ·
    replace h3 := not_eq_false h3
    replace h3 := of_decide_eq_true h3
    refine WC.skip ?_
    refine At.blocknormal ?_
    refine At.then_ ?_
    refine WC.region ?_
    refine Qm ?_
    refine WL.p Q0 (Yl.add Q0 Q0 Q7) ?_
    refine Qa ?_
    refine WL.nil ?_
    refine At.roundC (k + 1) (hs.only Q2) ⟨by rfl, by rfl, by rfl, by rfl, by rfl, by rfl, by rfl, trivial⟩ ⟨by rfl, trivial⟩ ?_ ?_
    ·
     omega
    ·
     rw [hJ]; simp_all
  ·
   replace h2 := of_decide_eq_false h2
   rw [drop_out (l := a.l) Q7, drop_out (l := b.l) Q7] at hJ
   refine WC.exit ?_
   refine At.thenexit ?_
   refine At.thenexit ?_
   refine At.blockexit ?_
   refine At.then_ ?_
   refine WC.seq ?_
   refine Qa ?_
   refine WL.next ?_
   refine WC.ret ?_
   refine fin1' rfl Q0 ?_
   refine RetP.mk hs ?_
   rw [hJ]; simp_all

theorem c_laws_eqServer (a : PServer) (b : PServer) (w : World) (h_a : Ph.ok w a) (h_b : Ph.ok w b)  : Calls Tryz.prog 147 [.agg #[S a.host, Sl.v a.files], .agg #[S b.host, Sl.v b.files]].toArray w (RetP w (Bo (decide (a.lg = b.lg)))) := by
 refine enterN 16 Tryz.func147 rfl rfl rfl ?_
 have hs := Sat.start w
 refine WC.seq ?_
 refine WL.r Q0 (Yr.box hs Q0 Q0) ?_
 clear hs; rintro _ w ⟨b1, rfl, hb, hs⟩; clear hb
 refine WL.r Q0 (Yr.box hs Q0 Q0) ?_
 clear hs; rintro _ w ⟨b2, rfl, hb, hs⟩; clear hb
 refine Qa ?_
 refine WL.next ?_
 refine WC.seq' ?_
 refine WC.seq ?_
 refine WL.p Q0 (Yl.fieldAddr fa185_0 Q0) ?_
 refine WL.p Q0 (Yl.loadB sca9 Q0 hs Q1 Q0) ?_
 refine WL.p Q0 (Yl.fieldAddr fa185_0 Q0) ?_
 refine WL.p Q0 (Yl.loadB sca9 Q0 hs Q1 Q0) ?_
 refine WL.p Q0 (Yl.nes Q0 Q0) ?_
 refine WL.next ?_
 refine WC.condS Q0 (fun h1 => ?_) (fun h1 => ?_)
 ·
  replace h1 := not_eq_true h1
  replace h1 := of_decide_eq_false h1
  refine WC.seq ?_
  refine Qa ?_
  refine WL.next ?_
  refine WC.ret ?_
  refine At.thenret ?_
  refine fin1' rfl Q0 ?_
  refine RetP.mk hs ?_
  simp_all [TServer.ext_iff]
 ·
  replace h1 := not_eq_false h1
  replace h1 := of_decide_eq_true h1
  refine WC.skipn ?_
  refine WC.seq' ?_
  refine WC.seq ?_
  refine WL.p Q0 (Yl.fieldAddr fa185_1 Q0) ?_
  refine WL.p Q0 (Yl.loadB sca183 Q0 hs Q1 Q0) ?_
  refine WL.p Q0 (Yl.fieldAddr fa185_1 Q0) ?_
  refine WL.p Q0 (Yl.loadB sca183 Q0 hs Q1 Q0) ?_
  refine WL.callp hs Q0 (Yc.func Q0 fn186) (c_laws_eqFileS _ _ _ (Ph.old h_a.files hs) (Ph.old h_b.files hs)) ?_
  clear hs; intro w hs
  refine WL.p Q0 (Yl.not Q0) ?_
  refine WL.next ?_
  refine WC.condS Q0 (fun h2 => ?_) (fun h2 => ?_)
  ·
   replace h2 := not_eq_true h2
   replace h2 := of_decide_eq_false h2
   refine WC.seq ?_
   refine Qa ?_
   refine WL.next ?_
   refine WC.ret ?_
   refine At.thenret ?_
   refine fin1' rfl Q0 ?_
   refine RetP.mk hs ?_
   simp_all [TServer.ext_iff]
  ·
   replace h2 := not_eq_false h2
   replace h2 := of_decide_eq_true h2
   refine WC.skipn ?_
   refine WC.seq ?_
   refine Qa ?_
   refine WL.next ?_
   refine WC.ret ?_
   refine fin1' rfl Q0 ?_
   refine RetP.mk hs ?_
   simp_all [TServer.ext_iff]

theorem c_laws_eqServerS (a : (Sl PServer)) (b : (Sl PServer)) (w : World) (h_a : Ph.ok w a) (h_b : Ph.ok w b)  : Calls Tryz.prog 76 [Sl.v a, Sl.v b].toArray w (RetP w (Bo (decide ((a.l).map PServer.lg = (b.l).map PServer.lg)))) := by
 have hw := h_a.lt
 refine enterN 27 Tryz.func76 rfl rfl rfl ?_
 have hs := Sat.start w
 refine WC.seq ?_
 refine Qa ?_
 refine WL.next ?_
 refine WC.seq' ?_
 refine WC.seq ?_
 refine Qm ?_
 refine WL.p Q0 (Yl.len_sl slu33 Q0) ?_
 refine Qm ?_
 refine WL.p Q0 (Yl.len_sl slu33 Q0) ?_
 refine WL.p Q0 (Yl.nei Q0 Q0) ?_
 refine WL.next ?_
 refine WC.condS Q0 (fun h1 => ?_) (fun h1 => ?_)
 ·
  replace h1 := not_eq_true h1
  replace h1 := of_decide_eq_false h1
  refine WC.seq ?_
  refine Qa ?_
  refine WL.next ?_
  refine WC.ret ?_
  refine At.thenret ?_
  refine fin1' rfl Q0 ?_
  refine RetP.mk hs ?_
  have hne : ¬ (a.l).map PServer.lg = (b.l).map PServer.lg := by
   intro h
   have h2 := congrArg List.length h
   try simp at h2
   omega
  simp only [hne, decide_false]
 ·
  replace h1 := not_eq_false h1
  replace h1 := of_decide_eq_true h1
  refine WC.skipn ?_
  refine WC.seq' ?_
  refine WC.seq ?_
  refine Qa ?_
  refine WL.next ?_
  refine WC.block ?_
  refine WC.loopC (ι := Nat) (fun k => a.l.length - k) (fun k => [(5, I (k : Int))]) (fun _ => []) (fun k => decide ((a.l).map PServer.lg = (b.l).map PServer.lg) = decide ((a.l.drop k).map PServer.lg = (b.l.drop k).map PServer.lg)) [(0, _), (1, _), (6, _), (7, _), (8, _), (9, _), (10, _)] 0 (hs) ⟨by rfl, by rfl, by rfl, by rfl, by rfl, by rfl, by rfl, trivial⟩ ⟨by rfl, trivial⟩ ?_ ?_
  ·
   simp
  clear hs; rintro k w hJ hs
  simp only [List.nil_append] at hs
  refine WC.seq' ?_
  refine WC.seq ?_
  refine Qm ?_
  refine Qm ?_
  refine WL.p Q0 (Yl.len_sl slu33 Q0) ?_
  refine WL.p Q0 (Yl.lss Q0 Q0) ?_
  refine WL.next ?_
  refine WC.condS Q0 (fun h2 => ?_) (fun h2 => ?_)
  ·
   replace h2 := of_decide_eq_true h2
   obtain ⟨d, hd⟩ := exists_get (l := a.l) (k := k) Q7
   obtain ⟨d2, hd2⟩ := exists_get (l := b.l) (k := k) Q7
   rw [drop_cons hd, drop_cons hd2] at hJ
   refine WC.skipn ?_
   refine WC.seq' ?_
   refine WC.block ?_
   refine WC.quietn mixed Q6 hs ?_
   refine WQ.p Q0 (fun w hs => Yl.move Q0) ?_
   refine WQ.p Q0 (fun w hs => Yl.move Q0) ?_
   refine WQ.p Q0 (fun w hs => Yl.indexAddr slt33 Q0 Q0 (Ph.old h_a hs) Q0 (hd)) ?_
   refine WQ.p Q0 (fun w hs => Yl.loadA agg185 Q0 (Sl.Ok.at_ (Ph.old h_a hs) (by assumption)).2 Q0) ?_
   refine WQ.p Q0 (fun w hs => Yl.move Q0) ?_
   refine WQ.p Q0 (fun w hs => Yl.move Q0) ?_
   refine WQ.p Q0 (fun w hs => Yl.indexAddr slt33 Q0 Q0 (Ph.old h_b hs) Q0 (hd2)) ?_
   refine WQ.p Q0 (fun w hs => Yl.loadA agg185 Q0 (Sl.Ok.at_ (Ph.old h_b hs) (by assumption)).2 Q0) ?_
   refine WQ.callp Q0 (fun w => Yc.func Q0 fn147) (fun w hs => (c_laws_eqServer _ _ _ (Ph.old (Sl.Ok.elem h_a hd) hs) (Ph.old (Sl.Ok.elem h_b hd2) hs))) (fun _ _ hs hb => hs.ext hb) ?_
   refine WQ.p Q0 (fun w hs => Yl.not Q0) ?_
   refine WQ.next ?_
   clear hs; intro w hs
   refine WC.condS Q0 (fun h3 => ?_) (fun h3 => ?_)
   ·
    replace h3 := not_eq_true h3
    replace h3 := of_decide_eq_false h3
    refine WC.seq ?_
    refine Qa ?_
    refine WL.next ?_
    refine WC.ret ?_
    refine At.blockret ?_
    refine At.thenret ?_
    refine At.thenret ?_
    refine At.blockret ?_
    refine At.thenret ?_
    refine fin1' rfl Q0 ?_
    refine RetP.mk hs ?_
    rw [hJ]; simp_all
   ·
    replace h3 := not_eq_false h3
    replace h3 := of_decide_eq_true h3
    refine WC.skip ?_
    refine At.blocknormal ?_
    refine At.then_ ?_
    refine WC.region ?_
    refine Qm ?_
    refine WL.p Q0 (Yl.add Q0 Q0 Q7) ?_
    refine Qa ?_
    refine WL.nil ?_
    refine At.roundC (k + 1) (hs.only Q2) ⟨by rfl, by rfl, by rfl, by rfl, by rfl, by rfl, by rfl, trivial⟩ ⟨by rfl, trivial⟩ ?_ ?_
    ·
     omega
    ·
     rw [hJ]; simp_all
  ·
   replace h2 := of_decide_eq_false h2
   rw [drop_out (l := a.l) Q7, drop_out (l := b.l) Q7] at hJ
   refine WC.exit ?_
   refine At.thenexit ?_
   refine At.thenexit ?_
   refine At.blockexit ?_
   refine At.then_ ?_
   refine WC.seq ?_
   refine Qa ?_
   refine WL.next ?_
   refine WC.ret ?_
   refine fin1' rfl Q0 ?_
   refine RetP.mk hs ?_
   rw [hJ]; simp_all

theorem c_laws_eqAddr (a : TAddr) (b : TAddr) (w : World)   : Calls Tryz.prog 188 [.agg #[S a.host, S a.path], .agg #[S b.host, S b.path]].toArray w (RetP w (Bo (decide (a = b)))) := by
 refine enterN 15 Tryz.func188 rfl rfl rfl ?_
 have hs := Sat.start w
 refine WC.seq ?_
 refine WL.r Q0 (Yr.box hs Q0 Q0) ?_
 clear hs; rintro _ w ⟨b1, rfl, hb, hs⟩; clear hb
 refine WL.r Q0 (Yr.box hs Q0 Q0) ?_
 clear hs; rintro _ w ⟨b2, rfl, hb, hs⟩; clear hb
 refine Qa ?_
 refine WL.next ?_
 refine WC.seq' ?_
 refine WC.seq ?_
 refine WL.p Q0 (Yl.fieldAddr fa45_0 Q0) ?_
 refine WL.p Q0 (Yl.loadB sca9 Q0 hs Q1 Q0) ?_
 refine WL.p Q0 (Yl.fieldAddr fa45_0 Q0) ?_
 refine WL.p Q0 (Yl.loadB sca9 Q0 hs Q1 Q0) ?_
 refine WL.p Q0 (Yl.nes Q0 Q0) ?_
 refine WL.next ?_
 refine WC.condS Q0 (fun h1 => ?_) (fun h1 => ?_)
 ·
  replace h1 := not_eq_true h1
  replace h1 := of_decide_eq_false h1
  refine WC.seq ?_
  refine Qa ?_
  refine WL.next ?_
  refine WC.ret ?_
  refine At.thenret ?_
  refine fin1' rfl Q0 ?_
  refine RetP.mk hs ?_
  simp_all [TAddr.ext_iff]
 ·
  replace h1 := not_eq_false h1
  replace h1 := of_decide_eq_true h1
  refine WC.skipn ?_
  refine WC.seq' ?_
  refine WC.seq ?_
  refine WL.p Q0 (Yl.fieldAddr fa45_1 Q0) ?_
  refine WL.p Q0 (Yl.loadB sca9 Q0 hs Q1 Q0) ?_
  refine WL.p Q0 (Yl.fieldAddr fa45_1 Q0) ?_
  refine WL.p Q0 (Yl.loadB sca9 Q0 hs Q1 Q0) ?_
  refine WL.p Q0 (Yl.nes Q0 Q0) ?_
  refine WL.next ?_
  refine WC.condS Q0 (fun h2 => ?_) (fun h2 => ?_)
  ·
   replace h2 := not_eq_true h2
   replace h2 := of_decide_eq_false h2
   refine WC.seq ?_
   refine Qa ?_
   refine WL.next ?_
   refine WC.ret ?_
   refine At.thenret ?_
   refine fin1' rfl Q0 ?_
   refine RetP.mk hs ?_
   simp_all [TAddr.ext_iff]
  ·
   replace h2 := not_eq_false h2
   replace h2 := of_decide_eq_true h2
   refine WC.skipn ?_
   refine WC.seq ?_
   refine Qa ?_
   refine WL.next ?_
   refine WC.ret ?_
   refine fin1' rfl Q0 ?_
   refine RetP.mk hs ?_
   simp_all [TAddr.ext_iff]

theorem c_laws_eqEntry (a : TEntry) (b : TEntry) (w : World)   : Calls Tryz.prog 187 [.agg #[S a.top, S a.to.host, S a.to.path, I a.response.status, I a.response.kind, S a.response.body, I a.response.age, Bo a.response.shares, S a.response.policy, I a.until_], .agg #[S b.top, S b.to.host, S b.to.path, I b.response.status, I b.response.kind, S b.response.body, I b.response.age, Bo b.response.shares, S b.response.policy, I b.until_]].toArray w (RetP w (Bo (decide (a = b)))) := by
 refine enterN 27 Tryz.func187 rfl rfl rfl ?_
 have hs := Sat.start w
 refine WC.seq ?_
 refine WL.r Q0 (Yr.box hs Q0 Q0) ?_
 clear hs; rintro _ w ⟨b1, rfl, hb, hs⟩; clear hb
 refine WL.r Q0 (Yr.box hs Q0 Q0) ?_
 clear hs; rintro _ w ⟨b2, rfl, hb, hs⟩; clear hb
 refine Qa ?_
 refine WL.next ?_
 refine WC.seq' ?_
 refine WC.seq ?_
 refine WL.p Q0 (Yl.fieldAddr fa180_0 Q0) ?_
 refine WL.p Q0 (Yl.loadB sca9 Q0 hs Q1 Q0) ?_
 refine WL.p Q0 (Yl.fieldAddr fa180_0 Q0) ?_
 refine WL.p Q0 (Yl.loadB sca9 Q0 hs Q1 Q0) ?_
 refine WL.p Q0 (Yl.nes Q0 Q0) ?_
 refine WL.next ?_
 refine WC.condS Q0 (fun h1 => ?_) (fun h1 => ?_)
 ·
  replace h1 := not_eq_true h1
  replace h1 := of_decide_eq_false h1
  refine WC.seq ?_
  refine Qa ?_
  refine WL.next ?_
  refine WC.ret ?_
  refine At.thenret ?_
  refine fin1' rfl Q0 ?_
  refine RetP.mk hs ?_
  simp_all [TEntry.ext_iff]
 ·
  replace h1 := not_eq_false h1
  replace h1 := of_decide_eq_true h1
  refine WC.skipn ?_
  refine WC.seq' ?_
  refine WC.seq ?_
  refine WL.p Q0 (Yl.fieldAddr fa180_1 Q0) ?_
  refine WL.p Q0 (Yl.loadAB agg45 Q0 hs Q1 Q0 Q0) ?_
  refine WL.p Q0 (Yl.fieldAddr fa180_1 Q0) ?_
  refine WL.p Q0 (Yl.loadAB agg45 Q0 hs Q1 Q0 Q0) ?_
  refine WL.callp hs Q0 (Yc.func Q0 fn188) (c_laws_eqAddr _ _ _) ?_
  clear hs; intro w hs
  refine WL.p Q0 (Yl.not Q0) ?_
  refine WL.next ?_
  refine WC.condS Q0 (fun h2 => ?_) (fun h2 => ?_)
  ·
   replace h2 := not_eq_true h2
   replace h2 := of_decide_eq_false h2
   refine WC.seq ?_
   refine Qa ?_
   refine WL.next ?_
   refine WC.ret ?_
   refine At.thenret ?_
   refine fin1' rfl Q0 ?_
   refine RetP.mk hs ?_
   simp_all [TEntry.ext_iff]
  ·
   replace h2 := not_eq_false h2
   replace h2 := of_decide_eq_true h2
   refine WC.skipn ?_
   refine WC.seq' ?_
   refine WC.seq ?_
   refine WL.p Q0 (Yl.fieldAddr fa180_2 Q0) ?_
   refine WL.p Q0 (Yl.loadAB agg41 Q0 hs Q1 Q0 Q0) ?_
   refine WL.p Q0 (Yl.fieldAddr fa180_2 Q0) ?_
   refine WL.p Q0 (Yl.loadAB agg41 Q0 hs Q1 Q0 Q0) ?_
   refine WL.callp hs Q0 (Yc.func Q0 fn18) (c_laws_eqResponse _ _ _) ?_
   clear hs; intro w hs
   refine WL.p Q0 (Yl.not Q0) ?_
   refine WL.next ?_
   refine WC.condS Q0 (fun h3 => ?_) (fun h3 => ?_)
   ·
    replace h3 := not_eq_true h3
    replace h3 := of_decide_eq_false h3
    refine WC.seq ?_
    refine Qa ?_
    refine WL.next ?_
    refine WC.ret ?_
    refine At.thenret ?_
    refine fin1' rfl Q0 ?_
    refine RetP.mk hs ?_
    simp_all [TEntry.ext_iff]
   ·
    replace h3 := not_eq_false h3
    replace h3 := of_decide_eq_true h3
    refine WC.skipn ?_
    refine WC.seq' ?_
    refine WC.seq ?_
    refine WL.p Q0 (Yl.fieldAddr fa180_3 Q0) ?_
    refine WL.p Q0 (Yl.loadB sca3 Q0 hs Q1 Q0) ?_
    refine WL.p Q0 (Yl.fieldAddr fa180_3 Q0) ?_
    refine WL.p Q0 (Yl.loadB sca3 Q0 hs Q1 Q0) ?_
    refine WL.p Q0 (Yl.nei Q0 Q0) ?_
    refine WL.next ?_
    refine WC.condS Q0 (fun h4 => ?_) (fun h4 => ?_)
    ·
     replace h4 := not_eq_true h4
     replace h4 := of_decide_eq_false h4
     refine WC.seq ?_
     refine Qa ?_
     refine WL.next ?_
     refine WC.ret ?_
     refine At.thenret ?_
     refine fin1' rfl Q0 ?_
     refine RetP.mk hs ?_
     simp_all [TEntry.ext_iff]
    ·
     replace h4 := not_eq_false h4
     replace h4 := of_decide_eq_true h4
     refine WC.skipn ?_
     refine WC.seq ?_
     refine Qa ?_
     refine WL.next ?_
     refine WC.ret ?_
     refine fin1' rfl Q0 ?_
     refine RetP.mk hs ?_
     simp_all [TEntry.ext_iff]

theorem c_laws_eqEntryS (a : (Sl TEntry)) (b : (Sl TEntry)) (w : World) (h_a : Ph.ok w a) (h_b : Ph.ok w b)  : Calls Tryz.prog 148 [Sl.v a, Sl.v b].toArray w (RetP w (Bo (decide (a.l = b.l)))) := by
 have hw := h_a.lt
 refine enterN 27 Tryz.func148 rfl rfl rfl ?_
 have hs := Sat.start w
 refine WC.seq ?_
 refine Qa ?_
 refine WL.next ?_
 refine WC.seq' ?_
 refine WC.seq ?_
 refine Qm ?_
 refine WL.p Q0 (Yl.len_sl slu34 Q0) ?_
 refine Qm ?_
 refine WL.p Q0 (Yl.len_sl slu34 Q0) ?_
 refine WL.p Q0 (Yl.nei Q0 Q0) ?_
 refine WL.next ?_
 refine WC.condS Q0 (fun h1 => ?_) (fun h1 => ?_)
 ·
  replace h1 := not_eq_true h1
  replace h1 := of_decide_eq_false h1
  refine WC.seq ?_
  refine Qa ?_
  refine WL.next ?_
  refine WC.ret ?_
  refine At.thenret ?_
  refine fin1' rfl Q0 ?_
  refine RetP.mk hs ?_
  have hne : ¬ a.l = b.l := by
   intro h
   have h2 := congrArg List.length h
   try simp at h2
   omega
  simp only [hne, decide_false]
 ·
  replace h1 := not_eq_false h1
  replace h1 := of_decide_eq_true h1
  refine WC.skipn ?_
  refine WC.seq' ?_
  refine WC.seq ?_
  refine Qa ?_
  refine WL.next ?_
  refine WC.block ?_
  refine WC.loopC (ι := Nat) (fun k => a.l.length - k) (fun k => [(5, I (k : Int))]) (fun _ => []) (fun k => decide (a.l = b.l) = decide (a.l.drop k = b.l.drop k)) [(0, _), (1, _), (6, _), (7, _), (8, _), (9, _), (10, _)] 0 (hs) ⟨by rfl, by rfl, by rfl, by rfl, by rfl, by rfl, by rfl, trivial⟩ ⟨by rfl, trivial⟩ ?_ ?_
  ·
   simp
  clear hs; rintro k w hJ hs
  simp only [List.nil_append] at hs
  refine WC.seq' ?_
  refine WC.seq ?_
  refine Qm ?_
  refine Qm ?_
  refine WL.p Q0 (Yl.len_sl slu34 Q0) ?_
  refine WL.p Q0 (Yl.lss Q0 Q0) ?_
  refine WL.next ?_
  refine WC.condS Q0 (fun h2 => ?_) (fun h2 => ?_)
  ·
   replace h2 := of_decide_eq_true h2
   obtain ⟨d, hd⟩ := exists_get (l := a.l) (k := k) Q7
   obtain ⟨d2, hd2⟩ := exists_get (l := b.l) (k := k) Q7
   rw [drop_cons hd, drop_cons hd2] at hJ
   refine WC.skipn ?_
   refine WC.seq' ?_
   refine WC.block ?_
   refine WC.quietn mixed Q6 hs ?_
   refine WQ.p Q0 (fun w hs => Yl.move Q0) ?_
   refine WQ.p Q0 (fun w hs => Yl.move Q0) ?_
   refine WQ.p Q0 (fun w hs => Yl.indexAddr slt34 Q0 Q0 (Ph.old h_a hs) Q0 (hd)) ?_
   refine WQ.p Q0 (fun w hs => Yl.loadA agg180 Q0 (Sl.Ok.at_ (Ph.old h_a hs) (by assumption)).2 Q0) ?_
   refine WQ.p Q0 (fun w hs => Yl.move Q0) ?_
   refine WQ.p Q0 (fun w hs => Yl.move Q0) ?_
   refine WQ.p Q0 (fun w hs => Yl.indexAddr slt34 Q0 Q0 (Ph.old h_b hs) Q0 (hd2)) ?_
   refine WQ.p Q0 (fun w hs => Yl.loadA agg180 Q0 (Sl.Ok.at_ (Ph.old h_b hs) (by assumption)).2 Q0) ?_
   refine WQ.callp Q0 (fun w => Yc.func Q0 fn187) (fun w hs => (c_laws_eqEntry _ _ _)) (fun _ _ hs hb => hs.ext hb) ?_
   refine WQ.p Q0 (fun w hs => Yl.not Q0) ?_
   refine WQ.next ?_
   clear hs; intro w hs
   refine WC.condS Q0 (fun h3 => ?_) (fun h3 => ?_)
   ·
    replace h3 := not_eq_true h3
    replace h3 := of_decide_eq_false h3
    refine WC.seq ?_
    refine Qa ?_
    refine WL.next ?_
    refine WC.ret ?_
    refine At.blockret ?_
    refine At.thenret ?_
    refine At.thenret ?_
    refine At.blockret ?_
    refine At.thenret ?_
    refine fin1' rfl Q0 ?_
    refine RetP.mk hs ?_
    rw [hJ]; simp_all
   ·
    replace h3 := not_eq_false h3
    replace h3 := of_decide_eq_true h3
    refine WC.skip ?_
    refine At.blocknormal ?_
    refine At.then_ ?_
    refine WC.region ?_
    refine Qm ?_
    refine WL.p Q0 (Yl.add Q0 Q0 Q7) ?_
    refine Qa ?_
    refine WL.nil ?_
    refine At.roundC (k + 1) (hs.only Q2) ⟨by rfl, by rfl, by rfl, by rfl, by rfl, by rfl, by rfl, trivial⟩ ⟨by rfl, trivial⟩ ?_ ?_
    ·
     omega
    ·
     rw [hJ]; simp_all
  ·
   replace h2 := of_decide_eq_false h2
   rw [drop_out (l := a.l) Q7, drop_out (l := b.l) Q7] at hJ
   refine WC.exit ?_
   refine At.thenexit ?_
   refine At.thenexit ?_
   refine At.blockexit ?_
   refine At.then_ ?_
   refine WC.seq ?_
   refine Qa ?_
   refine WL.next ?_
   refine WC.ret ?_
   refine fin1' rfl Q0 ?_
   refine RetP.mk hs ?_
   rw [hJ]; simp_all

theorem c_laws_eqCache (a : PCache) (b : PCache) (w : World) (h_a : Ph.ok w a) (h_b : Ph.ok w b)  : Calls Tryz.prog 77 [.agg #[Sl.v a.entries], .agg #[Sl.v b.entries]].toArray w (RetP w (Bo (decide (a.lg = b.lg)))) := by
 refine enterN 11 Tryz.func77 rfl rfl rfl ?_
 have hs := Sat.start w
 refine WC.seq ?_
 refine WL.r Q0 (Yr.box hs Q0 Q0) ?_
 clear hs; rintro _ w ⟨b1, rfl, hb, hs⟩; clear hb
 refine WL.r Q0 (Yr.box hs Q0 Q0) ?_
 clear hs; rintro _ w ⟨b2, rfl, hb, hs⟩; clear hb
 refine Qa ?_
 refine WL.next ?_
 refine WC.seq' ?_
 refine WC.seq ?_
 refine WL.p Q0 (Yl.fieldAddr fa36_0 Q0) ?_
 refine WL.p Q0 (Yl.loadB sca34 Q0 hs Q1 Q0) ?_
 refine WL.p Q0 (Yl.fieldAddr fa36_0 Q0) ?_
 refine WL.p Q0 (Yl.loadB sca34 Q0 hs Q1 Q0) ?_
 refine WL.callp hs Q0 (Yc.func Q0 fn148) (c_laws_eqEntryS _ _ _ (Ph.old h_a.entries hs) (Ph.old h_b.entries hs)) ?_
 clear hs; intro w hs
 refine WL.p Q0 (Yl.not Q0) ?_
 refine WL.next ?_
 refine WC.condS Q0 (fun h1 => ?_) (fun h1 => ?_)
 ·
  replace h1 := not_eq_true h1
  replace h1 := of_decide_eq_false h1
  refine WC.seq ?_
  refine Qa ?_
  refine WL.next ?_
  refine WC.ret ?_
  refine At.thenret ?_
  refine fin1' rfl Q0 ?_
  refine RetP.mk hs ?_
  simp_all [TCache.ext_iff]
 ·
  replace h1 := not_eq_false h1
  replace h1 := of_decide_eq_true h1
  refine WC.skipn ?_
  refine WC.seq ?_
  refine Qa ?_
  refine WL.next ?_
  refine WC.ret ?_
  refine fin1' rfl Q0 ?_
  refine RetP.mk hs ?_
  simp_all [TCache.ext_iff]

theorem c_laws_eqSent (a : TSent) (b : TSent) (w : World)   : Calls Tryz.prog 149 [.agg #[S a.top, S a.to.host, S a.to.path, Bo a.guess], .agg #[S b.top, S b.to.host, S b.to.path, Bo b.guess]].toArray w (RetP w (Bo (decide (a = b)))) := by
 refine enterN 21 Tryz.func149 rfl rfl rfl ?_
 have hs := Sat.start w
 refine WC.seq ?_
 refine WL.r Q0 (Yr.box hs Q0 Q0) ?_
 clear hs; rintro _ w ⟨b1, rfl, hb, hs⟩; clear hb
 refine WL.r Q0 (Yr.box hs Q0 Q0) ?_
 clear hs; rintro _ w ⟨b2, rfl, hb, hs⟩; clear hb
 refine Qa ?_
 refine WL.next ?_
 refine WC.seq' ?_
 refine WC.seq ?_
 refine WL.p Q0 (Yl.fieldAddr fa123_0 Q0) ?_
 refine WL.p Q0 (Yl.loadB sca9 Q0 hs Q1 Q0) ?_
 refine WL.p Q0 (Yl.fieldAddr fa123_0 Q0) ?_
 refine WL.p Q0 (Yl.loadB sca9 Q0 hs Q1 Q0) ?_
 refine WL.p Q0 (Yl.nes Q0 Q0) ?_
 refine WL.next ?_
 refine WC.condS Q0 (fun h1 => ?_) (fun h1 => ?_)
 ·
  replace h1 := not_eq_true h1
  replace h1 := of_decide_eq_false h1
  refine WC.seq ?_
  refine Qa ?_
  refine WL.next ?_
  refine WC.ret ?_
  refine At.thenret ?_
  refine fin1' rfl Q0 ?_
  refine RetP.mk hs ?_
  simp_all [TSent.ext_iff]
 ·
  replace h1 := not_eq_false h1
  replace h1 := of_decide_eq_true h1
  refine WC.skipn ?_
  refine WC.seq' ?_
  refine WC.seq ?_
  refine WL.p Q0 (Yl.fieldAddr fa123_1 Q0) ?_
  refine WL.p Q0 (Yl.loadAB agg45 Q0 hs Q1 Q0 Q0) ?_
  refine WL.p Q0 (Yl.fieldAddr fa123_1 Q0) ?_
  refine WL.p Q0 (Yl.loadAB agg45 Q0 hs Q1 Q0 Q0) ?_
  refine WL.callp hs Q0 (Yc.func Q0 fn188) (c_laws_eqAddr _ _ _) ?_
  clear hs; intro w hs
  refine WL.p Q0 (Yl.not Q0) ?_
  refine WL.next ?_
  refine WC.condS Q0 (fun h2 => ?_) (fun h2 => ?_)
  ·
   replace h2 := not_eq_true h2
   replace h2 := of_decide_eq_false h2
   refine WC.seq ?_
   refine Qa ?_
   refine WL.next ?_
   refine WC.ret ?_
   refine At.thenret ?_
   refine fin1' rfl Q0 ?_
   refine RetP.mk hs ?_
   simp_all [TSent.ext_iff]
  ·
   replace h2 := not_eq_false h2
   replace h2 := of_decide_eq_true h2
   refine WC.skipn ?_
   refine WC.seq' ?_
   refine WC.seq ?_
   refine WL.p Q0 (Yl.fieldAddr fa123_2 Q0) ?_
   refine WL.p Q0 (Yl.loadB sca4 Q0 hs Q1 Q0) ?_
   refine WL.p Q0 (Yl.fieldAddr fa123_2 Q0) ?_
   refine WL.p Q0 (Yl.loadB sca4 Q0 hs Q1 Q0) ?_
   refine WL.p Q0 (Yl.neb bool4 Q0 Q0) ?_
   refine WL.next ?_
   refine WC.condS Q0 (fun h3 => ?_) (fun h3 => ?_)
   ·
    replace h3 := not_eq_true h3
    replace h3 := beq_false h3
    refine WC.seq ?_
    refine Qa ?_
    refine WL.next ?_
    refine WC.ret ?_
    refine At.thenret ?_
    refine fin1' rfl Q0 ?_
    refine RetP.mk hs ?_
    simp_all [TSent.ext_iff]
   ·
    replace h3 := not_eq_false h3
    replace h3 := beq_true h3
    refine WC.skipn ?_
    refine WC.seq ?_
    refine Qa ?_
    refine WL.next ?_
    refine WC.ret ?_
    refine fin1' rfl Q0 ?_
    refine RetP.mk hs ?_
    simp_all [TSent.ext_iff]

theorem c_laws_eqSentS (a : (Sl TSent)) (b : (Sl TSent)) (w : World) (h_a : Ph.ok w a) (h_b : Ph.ok w b)  : Calls Tryz.prog 78 [Sl.v a, Sl.v b].toArray w (RetP w (Bo (decide (a.l = b.l)))) := by
 have hw := h_a.lt
 refine enterN 27 Tryz.func78 rfl rfl rfl ?_
 have hs := Sat.start w
 refine WC.seq ?_
 refine Qa ?_
 refine WL.next ?_
 refine WC.seq' ?_
 refine WC.seq ?_
 refine Qm ?_
 refine WL.p Q0 (Yl.len_sl slu37 Q0) ?_
 refine Qm ?_
 refine WL.p Q0 (Yl.len_sl slu37 Q0) ?_
 refine WL.p Q0 (Yl.nei Q0 Q0) ?_
 refine WL.next ?_
 refine WC.condS Q0 (fun h1 => ?_) (fun h1 => ?_)
 ·
  replace h1 := not_eq_true h1
  replace h1 := of_decide_eq_false h1
  refine WC.seq ?_
  refine Qa ?_
  refine WL.next ?_
  refine WC.ret ?_
  refine At.thenret ?_
  refine fin1' rfl Q0 ?_
  refine RetP.mk hs ?_
  have hne : ¬ a.l = b.l := by
   intro h
   have h2 := congrArg List.length h
   try simp at h2
   omega
  simp only [hne, decide_false]
 ·
  replace h1 := not_eq_false h1
  replace h1 := of_decide_eq_true h1
  refine WC.skipn ?_
  refine WC.seq' ?_
  refine WC.seq ?_
  refine Qa ?_
  refine WL.next ?_
  refine WC.block ?_
  refine WC.loopC (ι := Nat) (fun k => a.l.length - k) (fun k => [(5, I (k : Int))]) (fun _ => []) (fun k => decide (a.l = b.l) = decide (a.l.drop k = b.l.drop k)) [(0, _), (1, _), (6, _), (7, _), (8, _), (9, _), (10, _)] 0 (hs) ⟨by rfl, by rfl, by rfl, by rfl, by rfl, by rfl, by rfl, trivial⟩ ⟨by rfl, trivial⟩ ?_ ?_
  ·
   simp
  clear hs; rintro k w hJ hs
  simp only [List.nil_append] at hs
  refine WC.seq' ?_
  refine WC.seq ?_
  refine Qm ?_
  refine Qm ?_
  refine WL.p Q0 (Yl.len_sl slu37 Q0) ?_
  refine WL.p Q0 (Yl.lss Q0 Q0) ?_
  refine WL.next ?_
  refine WC.condS Q0 (fun h2 => ?_) (fun h2 => ?_)
  ·
   replace h2 := of_decide_eq_true h2
   obtain ⟨d, hd⟩ := exists_get (l := a.l) (k := k) Q7
   obtain ⟨d2, hd2⟩ := exists_get (l := b.l) (k := k) Q7
   rw [drop_cons hd, drop_cons hd2] at hJ
   refine WC.skipn ?_
   refine WC.seq' ?_
   refine WC.block ?_
   refine WC.quietn mixed Q6 hs ?_
   refine WQ.p Q0 (fun w hs => Yl.move Q0) ?_
   refine WQ.p Q0 (fun w hs => Yl.move Q0) ?_
   refine WQ.p Q0 (fun w hs => Yl.indexAddr slt37 Q0 Q0 (Ph.old h_a hs) Q0 (hd)) ?_
   refine WQ.p Q0 (fun w hs => Yl.loadA agg123 Q0 (Sl.Ok.at_ (Ph.old h_a hs) (by assumption)).2 Q0) ?_
   refine WQ.p Q0 (fun w hs => Yl.move Q0) ?_
   refine WQ.p Q0 (fun w hs => Yl.move Q0) ?_
   refine WQ.p Q0 (fun w hs => Yl.indexAddr slt37 Q0 Q0 (Ph.old h_b hs) Q0 (hd2)) ?_
   refine WQ.p Q0 (fun w hs => Yl.loadA agg123 Q0 (Sl.Ok.at_ (Ph.old h_b hs) (by assumption)).2 Q0) ?_
   refine WQ.callp Q0 (fun w => Yc.func Q0 fn149) (fun w hs => (c_laws_eqSent _ _ _)) (fun _ _ hs hb => hs.ext hb) ?_
   refine WQ.p Q0 (fun w hs => Yl.not Q0) ?_
   refine WQ.next ?_
   clear hs; intro w hs
   refine WC.condS Q0 (fun h3 => ?_) (fun h3 => ?_)
   ·
    replace h3 := not_eq_true h3
    replace h3 := of_decide_eq_false h3
    refine WC.seq ?_
    refine Qa ?_
    refine WL.next ?_
    refine WC.ret ?_
    refine At.blockret ?_
    refine At.thenret ?_
    refine At.thenret ?_
    refine At.blockret ?_
    refine At.thenret ?_
    refine fin1' rfl Q0 ?_
    refine RetP.mk hs ?_
    rw [hJ]; simp_all
   ·
    replace h3 := not_eq_false h3
    replace h3 := of_decide_eq_true h3
    refine WC.skip ?_
    refine At.blocknormal ?_
    refine At.then_ ?_
    refine WC.region ?_
    refine Qm ?_
    refine WL.p Q0 (Yl.add Q0 Q0 Q7) ?_
    refine Qa ?_
    refine WL.nil ?_
    refine At.roundC (k + 1) (hs.only Q2) ⟨by rfl, by rfl, by rfl, by rfl, by rfl, by rfl, by rfl, trivial⟩ ⟨by rfl, trivial⟩ ?_ ?_
    ·
     omega
    ·
     rw [hJ]; simp_all
  ·
   replace h2 := of_decide_eq_false h2
   rw [drop_out (l := a.l) Q7, drop_out (l := b.l) Q7] at hJ
   refine WC.exit ?_
   refine At.thenexit ?_
   refine At.thenexit ?_
   refine At.blockexit ?_
   refine At.then_ ?_
   refine WC.seq ?_
   refine Qa ?_
   refine WL.next ?_
   refine WC.ret ?_
   refine fin1' rfl Q0 ?_
   refine RetP.mk hs ?_
   rw [hJ]; simp_all

theorem c_laws_eqNet (a : PNet) (b : PNet) (w : World) (h_a : Ph.ok w a) (h_b : Ph.ok w b)  : Calls Tryz.prog 17 [.agg #[Sl.v a.servers, Sl.v a.cache.entries, Sl.v a.log, I a.now], .agg #[Sl.v b.servers, Sl.v b.cache.entries, Sl.v b.log, I b.now]].toArray w (RetP w (Bo (decide (a.lg = b.lg)))) := by
 refine enterN 28 Tryz.func17 rfl rfl rfl ?_
 have hs := Sat.start w
 refine WC.seq ?_
 refine WL.r Q0 (Yr.box hs Q0 Q0) ?_
 clear hs; rintro _ w ⟨b1, rfl, hb, hs⟩; clear hb
 refine WL.r Q0 (Yr.box hs Q0 Q0) ?_
 clear hs; rintro _ w ⟨b2, rfl, hb, hs⟩; clear hb
 refine Qa ?_
 refine WL.next ?_
 refine WC.seq' ?_
 refine WC.seq ?_
 refine WL.p Q0 (Yl.fieldAddr fa39_0 Q0) ?_
 refine WL.p Q0 (Yl.loadB sca33 Q0 hs Q1 Q0) ?_
 refine WL.p Q0 (Yl.fieldAddr fa39_0 Q0) ?_
 refine WL.p Q0 (Yl.loadB sca33 Q0 hs Q1 Q0) ?_
 refine WL.callp hs Q0 (Yc.func Q0 fn76) (c_laws_eqServerS _ _ _ (Ph.old h_a.servers hs) (Ph.old h_b.servers hs)) ?_
 clear hs; intro w hs
 refine WL.p Q0 (Yl.not Q0) ?_
 refine WL.next ?_
 refine WC.condS Q0 (fun h1 => ?_) (fun h1 => ?_)
 ·
  replace h1 := not_eq_true h1
  replace h1 := of_decide_eq_false h1
  refine WC.seq ?_
  refine Qa ?_
  refine WL.next ?_
  refine WC.ret ?_
  refine At.thenret ?_
  refine fin1' rfl Q0 ?_
  refine RetP.mk hs ?_
  simp_all [TNet.ext_iff]
 ·
  replace h1 := not_eq_false h1
  replace h1 := of_decide_eq_true h1
  refine WC.skipn ?_
  refine WC.seq' ?_
  refine WC.seq ?_
  refine WL.p Q0 (Yl.fieldAddr fa39_1 Q0) ?_
  refine WL.p Q0 (Yl.loadAB agg36 Q0 hs Q1 Q0 Q0) ?_
  refine WL.p Q0 (Yl.fieldAddr fa39_1 Q0) ?_
  refine WL.p Q0 (Yl.loadAB agg36 Q0 hs Q1 Q0 Q0) ?_
  refine WL.callp hs Q0 (Yc.func Q0 fn77) (c_laws_eqCache _ _ _ ⟨(Ph.old h_a.cache.entries hs)⟩ ⟨(Ph.old h_b.cache.entries hs)⟩) ?_
  clear hs; intro w hs
  refine WL.p Q0 (Yl.not Q0) ?_
  refine WL.next ?_
  refine WC.condS Q0 (fun h2 => ?_) (fun h2 => ?_)
  ·
   replace h2 := not_eq_true h2
   replace h2 := of_decide_eq_false h2
   refine WC.seq ?_
   refine Qa ?_
   refine WL.next ?_
   refine WC.ret ?_
   refine At.thenret ?_
   refine fin1' rfl Q0 ?_
   refine RetP.mk hs ?_
   simp_all [TNet.ext_iff]
  ·
   replace h2 := not_eq_false h2
   replace h2 := of_decide_eq_true h2
   refine WC.skipn ?_
   refine WC.seq' ?_
   refine WC.seq ?_
   refine WL.p Q0 (Yl.fieldAddr fa39_2 Q0) ?_
   refine WL.p Q0 (Yl.loadB sca37 Q0 hs Q1 Q0) ?_
   refine WL.p Q0 (Yl.fieldAddr fa39_2 Q0) ?_
   refine WL.p Q0 (Yl.loadB sca37 Q0 hs Q1 Q0) ?_
   refine WL.callp hs Q0 (Yc.func Q0 fn78) (c_laws_eqSentS _ _ _ (Ph.old h_a.log hs) (Ph.old h_b.log hs)) ?_
   clear hs; intro w hs
   refine WL.p Q0 (Yl.not Q0) ?_
   refine WL.next ?_
   refine WC.condS Q0 (fun h3 => ?_) (fun h3 => ?_)
   ·
    replace h3 := not_eq_true h3
    replace h3 := of_decide_eq_false h3
    refine WC.seq ?_
    refine Qa ?_
    refine WL.next ?_
    refine WC.ret ?_
    refine At.thenret ?_
    refine fin1' rfl Q0 ?_
    refine RetP.mk hs ?_
    simp_all [TNet.ext_iff]
   ·
    replace h3 := not_eq_false h3
    replace h3 := of_decide_eq_true h3
    refine WC.skipn ?_
    refine WC.seq' ?_
    refine WC.seq ?_
    refine WL.p Q0 (Yl.fieldAddr fa39_3 Q0) ?_
    refine WL.p Q0 (Yl.loadB sca3 Q0 hs Q1 Q0) ?_
    refine WL.p Q0 (Yl.fieldAddr fa39_3 Q0) ?_
    refine WL.p Q0 (Yl.loadB sca3 Q0 hs Q1 Q0) ?_
    refine WL.p Q0 (Yl.nei Q0 Q0) ?_
    refine WL.next ?_
    refine WC.condS Q0 (fun h4 => ?_) (fun h4 => ?_)
    ·
     replace h4 := not_eq_true h4
     replace h4 := of_decide_eq_false h4
     refine WC.seq ?_
     refine Qa ?_
     refine WL.next ?_
     refine WC.ret ?_
     refine At.thenret ?_
     refine fin1' rfl Q0 ?_
     refine RetP.mk hs ?_
     simp_all [TNet.ext_iff]
    ·
     replace h4 := not_eq_false h4
     replace h4 := of_decide_eq_true h4
     refine WC.skipn ?_
     refine WC.seq ?_
     refine Qa ?_
     refine WL.next ?_
     refine WC.ret ?_
     refine fin1' rfl Q0 ?_
     refine RetP.mk hs ?_
     simp_all [TNet.ext_iff]

theorem c_laws_markText (k : Int) (w : World)  (hk : k ≤ 1000000000) : Calls Tryz.prog 128 [I k].toArray w (RetP w (S (mkT k))) := by
 refine enterN 20 Tryz.func128 rfl rfl rfl ?_
 have hs := Sat.start w
 refine WC.seq ?_
 refine Qa ?_
 refine WL.next ?_
 refine WC.seq' ?_
 refine WC.seq ?_
 refine Qm ?_
 refine WL.p Q0 (Yl.leq Q0 Q0) ?_
 refine WL.next ?_
 refine WC.condS Q0 (fun h1 => ?_) (fun h1 => ?_)
 ·
  replace h1 := of_decide_eq_true h1
  refine WC.seq ?_
  refine Qa ?_
  refine WL.next ?_
  refine WC.ret ?_
  refine At.thenret ?_
  refine fin1' rfl Q0 ?_
  refine RetP.mk hs ?_
  rw [mkT_out Q7]
 ·
  replace h1 := of_decide_eq_false h1
  refine WC.skipn ?_
  refine WC.seq ?_
  refine Qa ?_
  refine WL.next ?_
  refine WC.seq' ?_
  refine WC.block ?_
  refine WC.loopC (ι := Nat × Str) (fun ⟨n, o⟩ => n) (fun ⟨n, o⟩ => [(0, I (n : Int)), (3, S o)]) (fun _ => []) (fun ⟨n, o⟩ => digs k.toNat [] = digs n o ∧ o.length + n ≤ 1000000000) [(2, _), (4, _), (5, _)] (k.toNat, []) (hs) ⟨by rfl, by rfl, by rfl, trivial⟩ ⟨by exact congrArg (fun z => some (I z)) Q7, by rfl, trivial⟩ ?_ ?_
  ·
   exact ⟨rfl, by simp; omega⟩
  clear hs; rintro ⟨n, o⟩ w ⟨hJ1, hJ2⟩ hs
  simp only [List.nil_append] at hs
  refine WC.seq' ?_
  refine WC.seq ?_
  refine Qm ?_
  refine WL.p Q0 (Yl.gtr Q0 Q0) ?_
  refine WL.next ?_
  refine WC.condS Q0 (fun h2 => ?_) (fun h2 => ?_)
  ·
   replace h2 := of_decide_eq_true h2
   refine WC.skipn ?_
   refine WC.block ?_
   refine WC.seq ?_
   refine Qm ?_
   refine WL.p Q0 (Yl.remw Q0 Q0 (by decide)) ?_
   refine WL.p Q0 (Yl.add Q0 Q0 (by first | (rw [tmod10]; omega) | (simp; omega))) ?_
   refine WL.p Q0 (Yl.intByte (c := UInt8.ofNat (48 + n % 10)) Q6 u8t5 Q0 (by rw [digit_nat, tmod10]; omega)) ?_
   refine WL.r Q0 (Yr.buildSlice hs sll211 Q0 Q0 Q0 Q4 Q0) ?_
   clear hs; rintro _ w ⟨b1, rfl, hb, hs⟩; clear hb
   refine WL.p Q0 (Yl.bytesStr (l := [UInt8.ofNat (48 + n % 10)]) slu211 u8t5 str9 Q0 (hs.box_cells Q1) Q0 Q0) ?_
   refine Qm ?_
   refine WL.p Q0 (Yl.cat Q0 Q0 (by first | (rw [tmod10]; omega) | (simp; omega))) ?_
   refine Qa ?_
   refine WL.next ?_
   refine WC.region ?_
   refine Qm ?_
   refine WL.p Q0 (Yl.quow Q0 Q0 (by decide)) ?_
   refine Qa ?_
   refine WL.nil ?_
   refine At.blocknormal ?_
   refine At.roundC (n / 10, UInt8.ofNat (48 + n % 10) :: o) (hs.only Q2) ⟨by rfl, by rfl, by rfl, trivial⟩ ⟨by exact congrArg (fun z => some (I z)) (quo10 Q7), by rfl, trivial⟩ ?_ ?_
   ·
    show n / 10 < n
    omega
   ·
    exact ⟨by rw [hJ1, digs_step Q7], by simp; omega⟩
  ·
   replace h2 := of_decide_eq_false h2
   refine WC.exit ?_
   refine At.thenexit ?_
   refine At.thenexit ?_
   refine At.blockexit ?_
   refine At.then_ ?_
   refine WC.seq ?_
   refine Qm ?_
   refine WL.p Q0 (Yl.cat Q0 Q0 (by first | (rw [tmod10]; omega) | (simp; omega))) ?_
   refine Qa ?_
   refine WL.next ?_
   refine WC.ret ?_
   refine fin1' rfl Q0 ?_
   refine RetP.mk hs ?_
   rw [mkT_in Q7, hJ1, show n = 0 from by omega, digs_zero]; rfl

theorem c_laws_markFileS (a : (Sl TFile)) (k : Int) (w : World) (F : List Nat) (hF : Own.own w a F) (hn : F.Nodup)  (hk0 : 0 ≤ k) (hk : k + ((costL (fun _ => 7) (a.l) : Nat) : Int) ≤ 100000000) : Calls Tryz.prog 150 [Sl.v a, I k].toArray w (RetM w a F (I (k + ((costL (fun _ => 7) (a.l) : Nat) : Int))) (fun a' => a'.l = mkL mkFile (fun _ => 7) k (a.l))) := by
 have hw := (Own.ok hF : Sl.Ok w a).lt
 have hk2 := hk
 rw [costL_const] at hk2
 refine enterN 73 Tryz.func150 rfl rfl rfl ?_
 have hs := Sat.markStart hF hn
 refine WC.seq ?_
 refine Qa ?_
 refine WL.next ?_
 refine WC.seq' ?_
 refine WC.seq ?_
 refine Qa ?_
 refine WL.next ?_
 refine WC.block ?_
 refine WC.loopC (ι := Nat × Sl TFile × List Nat × List TFile) (fun ⟨n, s, F1, p⟩ => a.l.length - n) (fun ⟨n, s, F1, p⟩ => [(5, I (n : Int)), (1, I (k + ((7 * n : Nat) : Int))), (0, s.v)]) (fun ⟨n, s, F1, p⟩ => [ow s F1]) (fun ⟨n, s, F1, p⟩ => n ≤ a.l.length ∧ s.v = a.v ∧ p.length = n ∧ s.l = p ++ a.l.drop n ∧ p = mkL mkFile (fun _ => 7) k (a.l.take n)) [(4, _)] (0, a, F, []) (hs.sel (D := [ow a F]) Q2) ⟨by rfl, trivial⟩ ⟨by rfl, by exact congrArg (fun z => some (I z)) Q7, by rfl, trivial⟩ ?_ ?_
 ·
  exact ⟨Nat.zero_le _, rfl, rfl, by simp, by simp [mkL]⟩
 clear hs; rintro ⟨n, s, F1, p⟩ w ⟨hJ1, hJ2, hJ3, hJ4, hJ5⟩ hs
 simp only [List.cons_append, List.nil_append] at hs
 refine WC.seq' ?_
 refine WC.seq ?_
 refine Qm ?_
 refine Qm ?_
 refine WL.p Q0 (Yl.len_sl slu183 Q0) ?_
 refine WL.p Q0 (Yl.lss Q0 Q0) ?_
 refine WL.next ?_
 refine WC.condS Q0 (fun h1 => ?_) (fun h1 => ?_)
 ·
  replace h1 := of_decide_eq_true h1
  have hsl : s.l.length = a.l.length := by rw [hJ4]; simp [hJ3]; omega
  obtain ⟨d, hd0⟩ := exists_get (l := a.l) (k := n) Q7
  have hd : s.l[n]? = some d := by rw [hJ4]; exact step_get hJ3 hd0
  have hkl : n < s.l.length := by omega
  refine WC.skipn ?_
  refine WC.seq' ?_
  refine WC.block ?_
  refine WC.seq ?_
  refine Qm ?_
  refine Qm ?_
  refine Qm ?_
  refine WL.callp hs Q0 (Yc.func Q0 fn128) (c_laws_markText _ _ Q7) ?_
  clear hs; intro w hs
  refine WL.p Q0 (Yl.indexAddr slt183 Q0 Q0 (hs.okow (x := s) (F := F1) Q1) Q0 (hd)) ?_
  refine WL.p Q0 (Yl.fieldAddr fa187_0 Q0) ?_
  refine WL.s (Yr.storeP (s := s) (F := F1) (d := d) (u := (⟨(mkT (k + ((7 * n : Nat) : Int))), d.response⟩ : TFile)) (k := n) (j := 0) hs Q2 Q0 Q0 Q0 hd ⟨_, by rfl, by rfl⟩ Q3 (by exact own_part_flat ⟨(by first | exact (show WfS ((mkT (k + ((7 * n : Nat) : Int)))) from mkT_len Q7) | assumption | (refine Ph.old ?_ hs; assumption)), (Sl.Ok.elem (hs.okow (x := s) (F := F1) Q1) hd).response⟩) Q0 (by exact szf9)) ?_
  clear hs; rintro _ w ⟨s1, _, rfl, hv1, hl1, hg1, hs⟩
  refine WL.next ?_
  refine WC.seq ?_
  refine Qm ?_
  refine WL.p Q0 (Yl.add Q0 Q0 Q7) ?_
  refine Qa ?_
  refine WL.next ?_
  refine WC.seq ?_
  refine Qm ?_
  refine Qm ?_
  refine Qm ?_
  refine WL.p Q0 (Yl.indexAddrV slt183 Q0 hv1 Q0 (hs.okow (x := s1) (F := F1) Q1) Q0 (hg1)) ?_
  refine WL.p Q0 (Yl.fieldAddr fa187_1 Q0) ?_
  refine WL.p Q0 (Yl.fieldAddr2 fa41_0 Q0) ?_
  refine WL.s (Yr.storeP (s := s1) (F := F1) (d := (⟨(mkT (k + ((7 * n : Nat) : Int))), d.response⟩ : TFile)) (u := (⟨(mkT (k + ((7 * n : Nat) : Int))), ⟨((k + ((7 * n : Nat) : Int)) + 1), d.response.kind, d.response.body, d.response.age, d.response.shares, d.response.policy⟩⟩ : TFile)) (k := n) (j := 1) hs Q2 Q0 Q0 Q0 hg1 ⟨_, by rfl, by rfl⟩ Q3 (by exact own_part_flat ⟨(Sl.Ok.elem (hs.okow (x := s1) (F := F1) Q1) hg1).path, ⟨(by exact (show WfI (((k + ((7 * n : Nat) : Int)) + 1)) from ⟨by omega, by omega⟩)), (Sl.Ok.elem (hs.okow (x := s1) (F := F1) Q1) hg1).response.kind, (Sl.Ok.elem (hs.okow (x := s1) (F := F1) Q1) hg1).response.body, (Sl.Ok.elem (hs.okow (x := s1) (F := F1) Q1) hg1).response.age, (Sl.Ok.elem (hs.okow (x := s1) (F := F1) Q1) hg1).response.shares, (Sl.Ok.elem (hs.okow (x := s1) (F := F1) Q1) hg1).response.policy⟩⟩) Q0 (by exact szf3)) ?_
  clear hs; rintro _ w ⟨s2, _, rfl, hv2, hl2, hg2, hs⟩
  refine WL.next ?_
  refine WC.seq ?_
  refine Qm ?_
  refine WL.p Q0 (Yl.add Q0 Q0 Q7) ?_
  refine Qa ?_
  refine WL.next ?_
  refine WC.seq ?_
  refine Qm ?_
  refine Qm ?_
  refine Qm ?_
  refine WL.p Q0 (Yl.indexAddrV slt183 Q0 (hv2.trans hv1) Q0 (hs.okow (x := s2) (F := F1) Q1) Q0 (hg2)) ?_
  refine WL.p Q0 (Yl.fieldAddr fa187_1 Q0) ?_
  refine WL.p Q0 (Yl.fieldAddr2 fa41_1 Q0) ?_
  refine WL.s (Yr.storeP (s := s2) (F := F1) (d := (⟨(mkT (k + ((7 * n : Nat) : Int))), ⟨((k + ((7 * n : Nat) : Int)) + 1), d.response.kind, d.response.body, d.response.age, d.response.shares, d.response.policy⟩⟩ : TFile)) (u := (⟨(mkT (k + ((7 * n : Nat) : Int))), ⟨((k + ((7 * n : Nat) : Int)) + 1), (((k + ((7 * n : Nat) : Int)) + 1) + 1), d.response.body, d.response.age, d.response.shares, d.response.policy⟩⟩ : TFile)) (k := n) (j := 2) hs Q2 Q0 Q0 Q0 hg2 ⟨_, by rfl, by rfl⟩ Q3 (by exact own_part_flat ⟨(Sl.Ok.elem (hs.okow (x := s2) (F := F1) Q1) hg2).path, ⟨(Sl.Ok.elem (hs.okow (x := s2) (F := F1) Q1) hg2).response.status, (by exact (show WfI ((((k + ((7 * n : Nat) : Int)) + 1) + 1)) from ⟨by omega, by omega⟩)), (Sl.Ok.elem (hs.okow (x := s2) (F := F1) Q1) hg2).response.body, (Sl.Ok.elem (hs.okow (x := s2) (F := F1) Q1) hg2).response.age, (Sl.Ok.elem (hs.okow (x := s2) (F := F1) Q1) hg2).response.shares, (Sl.Ok.elem (hs.okow (x := s2) (F := F1) Q1) hg2).response.policy⟩⟩) Q0 (by exact szf3)) ?_
  clear hs; rintro _ w ⟨s3, _, rfl, hv3, hl3, hg3, hs⟩
  refine WL.next ?_
  refine WC.seq ?_
  refine Qm ?_
  refine WL.p Q0 (Yl.add Q0 Q0 Q7) ?_
  refine Qa ?_
  refine WL.next ?_
  refine WC.seq ?_
  refine Qm ?_
  refine Qm ?_
  refine Qm ?_
  refine WL.callp hs Q0 (Yc.func Q0 fn128) (c_laws_markText _ _ Q7) ?_
  clear hs; intro w hs
  refine WL.p Q0 (Yl.indexAddrV slt183 Q0 (hv3.trans (hv2.trans hv1)) Q0 (hs.okow (x := s3) (F := F1) Q1) Q0 (hg3)) ?_
  refine WL.p Q0 (Yl.fieldAddr fa187_1 Q0) ?_
  refine WL.p Q0 (Yl.fieldAddr2 fa41_2 Q0) ?_
  refine WL.s (Yr.storeP (s := s3) (F := F1) (d := (⟨(mkT (k + ((7 * n : Nat) : Int))), ⟨((k + ((7 * n : Nat) : Int)) + 1), (((k + ((7 * n : Nat) : Int)) + 1) + 1), d.response.body, d.response.age, d.response.shares, d.response.policy⟩⟩ : TFile)) (u := (⟨(mkT (k + ((7 * n : Nat) : Int))), ⟨((k + ((7 * n : Nat) : Int)) + 1), (((k + ((7 * n : Nat) : Int)) + 1) + 1), (mkT ((((k + ((7 * n : Nat) : Int)) + 1) + 1) + 1)), d.response.age, d.response.shares, d.response.policy⟩⟩ : TFile)) (k := n) (j := 3) hs Q2 Q0 Q0 Q0 hg3 ⟨_, by rfl, by rfl⟩ Q3 (by exact own_part_flat ⟨(Sl.Ok.elem (hs.okow (x := s3) (F := F1) Q1) hg3).path, ⟨(Sl.Ok.elem (hs.okow (x := s3) (F := F1) Q1) hg3).response.status, (Sl.Ok.elem (hs.okow (x := s3) (F := F1) Q1) hg3).response.kind, (by first | exact (show WfS ((mkT ((((k + ((7 * n : Nat) : Int)) + 1) + 1) + 1))) from mkT_len Q7) | assumption | (refine Ph.old ?_ hs; assumption)), (Sl.Ok.elem (hs.okow (x := s3) (F := F1) Q1) hg3).response.age, (Sl.Ok.elem (hs.okow (x := s3) (F := F1) Q1) hg3).response.shares, (Sl.Ok.elem (hs.okow (x := s3) (F := F1) Q1) hg3).response.policy⟩⟩) Q0 (by exact szf9)) ?_
  clear hs; rintro _ w ⟨s4, _, rfl, hv4, hl4, hg4, hs⟩
  refine WL.next ?_
  refine WC.seq ?_
  refine Qm ?_
  refine WL.p Q0 (Yl.add Q0 Q0 Q7) ?_
  refine Qa ?_
  refine WL.next ?_
  refine WC.seq ?_
  refine Qm ?_
  refine Qm ?_
  refine Qm ?_
  refine WL.p Q0 (Yl.indexAddrV slt183 Q0 (hv4.trans (hv3.trans (hv2.trans hv1))) Q0 (hs.okow (x := s4) (F := F1) Q1) Q0 (hg4)) ?_
  refine WL.p Q0 (Yl.fieldAddr fa187_1 Q0) ?_
  refine WL.p Q0 (Yl.fieldAddr2 fa41_3 Q0) ?_
  refine WL.s (Yr.storeP (s := s4) (F := F1) (d := (⟨(mkT (k + ((7 * n : Nat) : Int))), ⟨((k + ((7 * n : Nat) : Int)) + 1), (((k + ((7 * n : Nat) : Int)) + 1) + 1), (mkT ((((k + ((7 * n : Nat) : Int)) + 1) + 1) + 1)), d.response.age, d.response.shares, d.response.policy⟩⟩ : TFile)) (u := (⟨(mkT (k + ((7 * n : Nat) : Int))), ⟨((k + ((7 * n : Nat) : Int)) + 1), (((k + ((7 * n : Nat) : Int)) + 1) + 1), (mkT ((((k + ((7 * n : Nat) : Int)) + 1) + 1) + 1)), (((((k + ((7 * n : Nat) : Int)) + 1) + 1) + 1) + 1), d.response.shares, d.response.policy⟩⟩ : TFile)) (k := n) (j := 4) hs Q2 Q0 Q0 Q0 hg4 ⟨_, by rfl, by rfl⟩ Q3 (by exact own_part_flat ⟨(Sl.Ok.elem (hs.okow (x := s4) (F := F1) Q1) hg4).path, ⟨(Sl.Ok.elem (hs.okow (x := s4) (F := F1) Q1) hg4).response.status, (Sl.Ok.elem (hs.okow (x := s4) (F := F1) Q1) hg4).response.kind, (Sl.Ok.elem (hs.okow (x := s4) (F := F1) Q1) hg4).response.body, (by exact (show WfI ((((((k + ((7 * n : Nat) : Int)) + 1) + 1) + 1) + 1)) from ⟨by omega, by omega⟩)), (Sl.Ok.elem (hs.okow (x := s4) (F := F1) Q1) hg4).response.shares, (Sl.Ok.elem (hs.okow (x := s4) (F := F1) Q1) hg4).response.policy⟩⟩) Q0 (by exact szf3)) ?_
  clear hs; rintro _ w ⟨s5, _, rfl, hv5, hl5, hg5, hs⟩
  refine WL.next ?_
  refine WC.seq ?_
  refine Qm ?_
  refine WL.p Q0 (Yl.add Q0 Q0 Q7) ?_
  refine Qa ?_
  refine WL.next ?_
  refine WC.seq ?_
  refine Qm ?_
  refine Qm ?_
  refine Qm ?_
  refine WL.p Q0 (Yl.remw Q0 Q0 (by decide)) ?_
  refine WL.p Q0 (Yl.eqi Q0 Q0) ?_
  refine WL.p Q0 (Yl.indexAddrV slt183 Q0 (hv5.trans (hv4.trans (hv3.trans (hv2.trans hv1)))) Q0 (hs.okow (x := s5) (F := F1) Q1) Q0 (hg5)) ?_
  refine WL.p Q0 (Yl.fieldAddr fa187_1 Q0) ?_
  refine WL.p Q0 (Yl.fieldAddr2 fa41_4 Q0) ?_
  refine WL.s (Yr.storeP (s := s5) (F := F1) (d := (⟨(mkT (k + ((7 * n : Nat) : Int))), ⟨((k + ((7 * n : Nat) : Int)) + 1), (((k + ((7 * n : Nat) : Int)) + 1) + 1), (mkT ((((k + ((7 * n : Nat) : Int)) + 1) + 1) + 1)), (((((k + ((7 * n : Nat) : Int)) + 1) + 1) + 1) + 1), d.response.shares, d.response.policy⟩⟩ : TFile)) (u := (⟨(mkT (k + ((7 * n : Nat) : Int))), ⟨((k + ((7 * n : Nat) : Int)) + 1), (((k + ((7 * n : Nat) : Int)) + 1) + 1), (mkT ((((k + ((7 * n : Nat) : Int)) + 1) + 1) + 1)), (((((k + ((7 * n : Nat) : Int)) + 1) + 1) + 1) + 1), (decide ((Int.tmod ((((((k + ((7 * n : Nat) : Int)) + 1) + 1) + 1) + 1) + 1) 3) = 0)), d.response.policy⟩⟩ : TFile)) (k := n) (j := 5) hs Q2 Q0 Q0 Q0 hg5 ⟨_, by rfl, by rfl⟩ Q3 (by exact own_part_flat ⟨(Sl.Ok.elem (hs.okow (x := s5) (F := F1) Q1) hg5).path, ⟨(Sl.Ok.elem (hs.okow (x := s5) (F := F1) Q1) hg5).response.status, (Sl.Ok.elem (hs.okow (x := s5) (F := F1) Q1) hg5).response.kind, (Sl.Ok.elem (hs.okow (x := s5) (F := F1) Q1) hg5).response.body, (Sl.Ok.elem (hs.okow (x := s5) (F := F1) Q1) hg5).response.age, (by trivial), (Sl.Ok.elem (hs.okow (x := s5) (F := F1) Q1) hg5).response.policy⟩⟩) Q0 (by exact szf4)) ?_
  clear hs; rintro _ w ⟨s6, _, rfl, hv6, hl6, hg6, hs⟩
  refine WL.next ?_
  refine WC.seq ?_
  refine Qm ?_
  refine WL.p Q0 (Yl.add Q0 Q0 Q7) ?_
  refine Qa ?_
  refine WL.next ?_
  refine WC.seq ?_
  refine Qm ?_
  refine Qm ?_
  refine Qm ?_
  refine WL.callp hs Q0 (Yc.func Q0 fn128) (c_laws_markText _ _ Q7) ?_
  clear hs; intro w hs
  refine WL.p Q0 (Yl.indexAddrV slt183 Q0 (hv6.trans (hv5.trans (hv4.trans (hv3.trans (hv2.trans hv1))))) Q0 (hs.okow (x := s6) (F := F1) Q1) Q0 (hg6)) ?_
  refine WL.p Q0 (Yl.fieldAddr fa187_1 Q0) ?_
  refine WL.p Q0 (Yl.fieldAddr2 fa41_5 Q0) ?_
  refine WL.s (Yr.storeP (s := s6) (F := F1) (d := (⟨(mkT (k + ((7 * n : Nat) : Int))), ⟨((k + ((7 * n : Nat) : Int)) + 1), (((k + ((7 * n : Nat) : Int)) + 1) + 1), (mkT ((((k + ((7 * n : Nat) : Int)) + 1) + 1) + 1)), (((((k + ((7 * n : Nat) : Int)) + 1) + 1) + 1) + 1), (decide ((Int.tmod ((((((k + ((7 * n : Nat) : Int)) + 1) + 1) + 1) + 1) + 1) 3) = 0)), d.response.policy⟩⟩ : TFile)) (u := (⟨(mkT (k + ((7 * n : Nat) : Int))), ⟨((k + ((7 * n : Nat) : Int)) + 1), (((k + ((7 * n : Nat) : Int)) + 1) + 1), (mkT ((((k + ((7 * n : Nat) : Int)) + 1) + 1) + 1)), (((((k + ((7 * n : Nat) : Int)) + 1) + 1) + 1) + 1), (decide ((Int.tmod ((((((k + ((7 * n : Nat) : Int)) + 1) + 1) + 1) + 1) + 1) 3) = 0)), (mkT (((((((k + ((7 * n : Nat) : Int)) + 1) + 1) + 1) + 1) + 1) + 1))⟩⟩ : TFile)) (k := n) (j := 6) hs Q2 Q0 Q0 Q0 hg6 ⟨_, by rfl, by rfl⟩ Q3 (by exact own_part_flat ⟨(Sl.Ok.elem (hs.okow (x := s6) (F := F1) Q1) hg6).path, ⟨(Sl.Ok.elem (hs.okow (x := s6) (F := F1) Q1) hg6).response.status, (Sl.Ok.elem (hs.okow (x := s6) (F := F1) Q1) hg6).response.kind, (Sl.Ok.elem (hs.okow (x := s6) (F := F1) Q1) hg6).response.body, (Sl.Ok.elem (hs.okow (x := s6) (F := F1) Q1) hg6).response.age, (Sl.Ok.elem (hs.okow (x := s6) (F := F1) Q1) hg6).response.shares, (by first | exact (show WfS ((mkT (((((((k + ((7 * n : Nat) : Int)) + 1) + 1) + 1) + 1) + 1) + 1))) from mkT_len Q7) | assumption | (refine Ph.old ?_ hs; assumption))⟩⟩) Q0 (by exact szf9)) ?_
  clear hs; rintro _ w ⟨s7, _, rfl, hv7, hl7, hg7, hs⟩
  refine WL.next ?_
  refine WC.region ?_
  refine Qm ?_
  refine WL.p Q0 (Yl.add Q0 Q0 Q7) ?_
  refine Qa ?_
  refine WL.nil ?_
  refine At.blocknormal ?_
  refine At.then_ ?_
  refine WC.region ?_
  refine Qm ?_
  refine WL.p Q0 (Yl.add Q0 Q0 Q7) ?_
  refine Qa ?_
  refine WL.nil ?_
  refine At.roundC (n + 1, s7, F1, p ++ [(⟨(mkT (k + ((7 * n : Nat) : Int))), ⟨((k + ((7 * n : Nat) : Int)) + 1), (((k + ((7 * n : Nat) : Int)) + 1) + 1), (mkT ((((k + ((7 * n : Nat) : Int)) + 1) + 1) + 1)), (((((k + ((7 * n : Nat) : Int)) + 1) + 1) + 1) + 1), (decide ((Int.tmod ((((((k + ((7 * n : Nat) : Int)) + 1) + 1) + 1) + 1) + 1) 3) = 0)), (mkT (((((((k + ((7 * n : Nat) : Int)) + 1) + 1) + 1) + 1) + 1) + 1))⟩⟩ : TFile)]) (hs.only Q2) ⟨by rfl, trivial⟩ ⟨by rfl, by exact congrArg (fun z => some (I z)) Q7, by exact congrArg some (hv7.trans (hv6.trans (hv5.trans (hv4.trans (hv3.trans (hv2.trans hv1)))))).symm, trivial⟩ ?_ ?_
  ·
   show a.l.length - (n + 1) < a.l.length - n
   omega
  ·
   refine ⟨by omega, (hv7.trans (hv6.trans (hv5.trans (hv4.trans (hv3.trans (hv2.trans hv1)))))).trans hJ2, by simp [hJ3], ?_, ?_⟩
   · rw [hl7, hl6, hl5, hl4, hl3, hl2, hl1]; simp only [List.set_set]; rw [hJ4]; exact step_set hJ3 Q7
   · rw [mkL_step hd0, hJ5, costL_take_const Q7]; rfl
 ·
  replace h1 := of_decide_eq_false h1
  refine WC.exit ?_
  refine At.thenexit ?_
  refine At.thenexit ?_
  refine At.blockexit ?_
  refine At.then_ ?_
  refine WC.seq ?_
  refine Qm ?_
  refine Qa ?_
  refine WL.next ?_
  refine WC.ret ?_
  refine fin1' rfl Q0 ?_
  have hsl : s.l.length = a.l.length := by rw [hJ4]; simp [hJ3]; omega
  have hn2 : n = a.l.length := by omega
  subst hn2
  rw [costL_const]
  refine RetM.cast (congrArg I Q7) ?_
  exact RetM.of hs Q1 (Sl.v_enc hJ2) (by rw [hJ4, List.drop_length, List.append_nil, hJ5, List.take_length])

theorem c_laws_markServerS (a : (Sl PServer)) (k : Int) (w : World) (F : List Nat) (hF : Own.own w a F) (hn : F.Nodup)  (hk0 : 0 ≤ k) (hk : k + ((costL costServer (a.l.map PServer.lg) : Nat) : Int) ≤ 100000000) : Calls Tryz.prog 79 [Sl.v a, I k].toArray w (RetM w a F (I (k + ((costL costServer (a.l.map PServer.lg) : Nat) : Int))) (fun a' => a'.l.map PServer.lg = mkL mkServer costServer k (a.l.map PServer.lg))) := by
 have hw := (Own.ok hF : Sl.Ok w a).lt
 refine enterN 28 Tryz.func79 rfl rfl rfl ?_
 have hs := Sat.markStart hF hn
 refine WC.seq ?_
 refine Qa ?_
 refine WL.next ?_
 refine WC.seq' ?_
 refine WC.seq ?_
 refine Qa ?_
 refine WL.next ?_
 refine WC.block ?_
 refine WC.loopC (ι := Nat × Sl PServer × List Nat × List PServer) (fun ⟨n, s, F1, p⟩ => a.l.length - n) (fun ⟨n, s, F1, p⟩ => [(5, I (n : Int)), (1, I (k + ((costL costServer ((a.l.map PServer.lg).take n) : Nat) : Int))), (0, s.v)]) (fun ⟨n, s, F1, p⟩ => [ow s F1]) (fun ⟨n, s, F1, p⟩ => n ≤ a.l.length ∧ s.v = a.v ∧ p.length = n ∧ s.l = p ++ a.l.drop n ∧ p.map PServer.lg = mkL mkServer costServer k ((a.l.map PServer.lg).take n)) [(4, _)] (0, a, F, []) (hs.sel (D := [ow a F]) Q2) ⟨by rfl, trivial⟩ ⟨by rfl, by exact congrArg (fun z => some (I z)) (by simp [costL]), by rfl, trivial⟩ ?_ ?_
 ·
  exact ⟨Nat.zero_le _, rfl, rfl, by simp, by simp [mkL]⟩
 clear hs; rintro ⟨n, s, F1, p⟩ w ⟨hJ1, hJ2, hJ3, hJ4, hJ5⟩ hs
 simp only [List.cons_append, List.nil_append] at hs
 refine WC.seq' ?_
 refine WC.seq ?_
 refine Qm ?_
 refine Qm ?_
 refine WL.p Q0 (Yl.len_sl slu33 Q0) ?_
 refine WL.p Q0 (Yl.lss Q0 Q0) ?_
 refine WL.next ?_
 refine WC.condS Q0 (fun h1 => ?_) (fun h1 => ?_)
 ·
  replace h1 := of_decide_eq_true h1
  have hsl : s.l.length = a.l.length := by rw [hJ4]; simp [hJ3]; omega
  obtain ⟨d, hd0⟩ := exists_get (l := a.l) (k := n) Q7
  have hd : s.l[n]? = some d := by rw [hJ4]; exact step_get hJ3 hd0
  have hkl : n < s.l.length := by omega
  have hm0 : (a.l.map PServer.lg)[n]? = some d.lg := by rw [List.getElem?_map, hd0]; rfl
  have hsp := costL_split (cost := costServer) hm0
  simp only [costServer, PServer.lg] at hsp
  refine WC.skipn ?_
  refine WC.seq' ?_
  refine WC.block ?_
  refine WC.seq ?_
  refine Qm ?_
  refine Qm ?_
  refine Qm ?_
  refine WL.callp hs Q0 (Yc.func Q0 fn128) (c_laws_markText _ _ Q7) ?_
  clear hs; intro w hs
  refine WL.p Q0 (Yl.indexAddr slt33 Q0 Q0 (hs.okow (x := s) (F := F1) Q1) Q0 (hd)) ?_
  refine WL.p Q0 (Yl.fieldAddr fa185_0 Q0) ?_
  refine WL.s (Yr.storeP (s := s) (F := F1) (d := d) (u := (⟨(mkT (k + ((costL costServer ((a.l.map PServer.lg).take n) : Nat) : Int))), d.files⟩ : PServer)) (k := n) (j := 0) hs Q2 Q0 Q0 Q0 hd ⟨_, by rfl, by rfl⟩ Q3 (by exact PServer.part (by first | exact (show WfS ((mkT (k + ((costL costServer ((a.l.map PServer.lg).take n) : Nat) : Int)))) from mkT_len Q7) | assumption | (refine Ph.old ?_ hs; assumption)) rfl) Q0 (by exact szf9)) ?_
  clear hs; rintro _ w ⟨s1, _, rfl, hv1, hl1, hg1, hs⟩
  refine WL.next ?_
  refine WC.seq ?_
  refine Qm ?_
  refine WL.p Q0 (Yl.add Q0 Q0 Q7) ?_
  refine Qa ?_
  refine WL.next ?_
  refine WC.region ?_
  refine Qm ?_
  refine Qm ?_
  refine WL.p Q0 (Yl.indexAddrV slt33 Q0 hv1 Q0 (hs.okow (x := s1) (F := F1) Q1) Q0 (hg1)) ?_
  refine WL.p Q0 (Yl.fieldAddr fa185_1 Q0) ?_
  refine WL.p Q0 (Yl.loadC sca183 Q0 (Sl.Ok.at_ (hs.okow (x := s1) (F := F1) Q1) (by assumption)).2 Q0) ?_
  refine Qm ?_
  obtain ⟨G2, B2, hs⟩ := Sat.lend (hs.sel (D := [ow s1 F1]) Q2) hg1
  obtain ⟨K2, hfl2, hs⟩ := PServer.split hs
  refine WL.callm (a := d.files) (F := K2) hs Q2 Q0 (Yc.func Q0 fn150) (c_laws_markFileS d.files _ _ K2 (own_of hs Q1) (nodup_of hs Q1) (by first | assumption | omega | (simp only [PToken.lg, PNode.lg, PBuilder.lg, PSheet.lg, PPolicy.lg, PServer.lg, PCache.lg, PNet.lg, PPage.lg] at *; omega)) (by first | assumption | omega | (simp only [PToken.lg, PNode.lg, PBuilder.lg, PSheet.lg, PPolicy.lg, PServer.lg, PCache.lg, PNet.lg, PPage.lg] at *; omega))) ?_
  clear hs; intro a2 A2 w he2 hq2 hs
  replace hs := PServer.join (⟨(mkT (k + ((costL costServer ((a.l.map PServer.lg).take n) : Nat) : Int))), a2⟩ : PServer) (hs.sel (D := [ow a2 A2]) Q2) (Flat.any hfl2.1)
  obtain ⟨s2, F2, hv2, hl2, hg2, hs⟩ := Sat.back (s := s1) (k := n) (d := (⟨(mkT (k + ((costL costServer ((a.l.map PServer.lg).take n) : Nat) : Int))), d.files⟩ : PServer)) (hs.sel (D := [ow (⟨(mkT (k + ((costL costServer ((a.l.map PServer.lg).take n) : Nat) : Int))), a2⟩ : PServer) A2, hl s1 n G2]) Q2) hg1 (by show [S (⟨(mkT (k + ((costL costServer ((a.l.map PServer.lg).take n) : Nat) : Int))), a2⟩ : PServer).host, Sl.v a2] = [S (⟨(mkT (k + ((costL costServer ((a.l.map PServer.lg).take n) : Nat) : Int))), d.files⟩ : PServer).host, Sl.v d.files]; rw [show Sl.v a2 = Sl.v d.files from Sl.enc_v he2])
  try simp only [List.cons_append, List.nil_append] at hs
  refine Qa ?_
  refine WL.nil ?_
  refine At.blocknormal ?_
  refine At.then_ ?_
  refine WC.region ?_
  refine Qm ?_
  refine WL.p Q0 (Yl.add Q0 Q0 Q7) ?_
  refine Qa ?_
  refine WL.nil ?_
  refine At.roundC (n + 1, s2, F2, p ++ [(⟨(mkT (k + ((costL costServer ((a.l.map PServer.lg).take n) : Nat) : Int))), a2⟩ : PServer)]) (hs.only Q2) ⟨by rfl, trivial⟩ ⟨by rfl, by exact congrArg (fun z => some (I z)) (by rw [costL_step hm0]; simp only [costServer, PServer.lg]; omega), by exact congrArg some (hv2.trans hv1).symm, trivial⟩ ?_ ?_
  ·
   show a.l.length - (n + 1) < a.l.length - n
   omega
  ·
   refine ⟨by omega, (hv2.trans hv1).trans hJ2, by simp [hJ3], ?_, ?_⟩
   · rw [hl2, hl1]; simp only [List.set_set]; rw [hJ4]; exact step_set hJ3 Q7
   · rw [mkL_step hm0, List.map_append, hJ5]; congr 1; simp only [List.map_cons, List.map_nil, List.cons.injEq, and_true]; simp only [mkServer, PServer.lg, hq2]
 ·
  replace h1 := of_decide_eq_false h1
  refine WC.exit ?_
  refine At.thenexit ?_
  refine At.thenexit ?_
  refine At.blockexit ?_
  refine At.then_ ?_
  refine WC.seq ?_
  refine Qm ?_
  refine Qa ?_
  refine WL.next ?_
  refine WC.ret ?_
  refine fin1' rfl Q0 ?_
  have hsl : s.l.length = a.l.length := by rw [hJ4]; simp [hJ3]; omega
  have hn2 : n = a.l.length := by omega
  subst hn2
  refine RetM.cast (congrArg I (by rw [List.take_of_length_le (by simp)])) ?_
  exact RetM.of hs Q1 (Sl.v_enc hJ2) (by rw [hJ4, List.drop_length, List.append_nil, hJ5, List.take_of_length_le (by simp)])

theorem c_laws_markEntryS (a : (Sl TEntry)) (k : Int) (w : World) (F : List Nat) (hF : Own.own w a F) (hn : F.Nodup)  (hk0 : 0 ≤ k) (hk : k + ((costL (fun _ => 10) (a.l) : Nat) : Int) ≤ 100000000) : Calls Tryz.prog 151 [Sl.v a, I k].toArray w (RetM w a F (I (k + ((costL (fun _ => 10) (a.l) : Nat) : Int))) (fun a' => a'.l = mkL mkEntry (fun _ => 10) k (a.l))) := by
 have hw := (Own.ok hF : Sl.Ok w a).lt
 have hk2 := hk
 rw [costL_const] at hk2
 refine enterN 98 Tryz.func151 rfl rfl rfl ?_
 have hs := Sat.markStart hF hn
 refine WC.seq ?_
 refine Qa ?_
 refine WL.next ?_
 refine WC.seq' ?_
 refine WC.seq ?_
 refine Qa ?_
 refine WL.next ?_
 refine WC.block ?_
 refine WC.loopC (ι := Nat × Sl TEntry × List Nat × List TEntry) (fun ⟨n, s, F1, p⟩ => a.l.length - n) (fun ⟨n, s, F1, p⟩ => [(5, I (n : Int)), (1, I (k + ((10 * n : Nat) : Int))), (0, s.v)]) (fun ⟨n, s, F1, p⟩ => [ow s F1]) (fun ⟨n, s, F1, p⟩ => n ≤ a.l.length ∧ s.v = a.v ∧ p.length = n ∧ s.l = p ++ a.l.drop n ∧ p = mkL mkEntry (fun _ => 10) k (a.l.take n)) [(4, _)] (0, a, F, []) (hs.sel (D := [ow a F]) Q2) ⟨by rfl, trivial⟩ ⟨by rfl, by exact congrArg (fun z => some (I z)) Q7, by rfl, trivial⟩ ?_ ?_
 ·
  exact ⟨Nat.zero_le _, rfl, rfl, by simp, by simp [mkL]⟩
 clear hs; rintro ⟨n, s, F1, p⟩ w ⟨hJ1, hJ2, hJ3, hJ4, hJ5⟩ hs
 simp only [List.cons_append, List.nil_append] at hs
 refine WC.seq' ?_
 refine WC.seq ?_
 refine Qm ?_
 refine Qm ?_
 refine WL.p Q0 (Yl.len_sl slu34 Q0) ?_
 refine WL.p Q0 (Yl.lss Q0 Q0) ?_
 refine WL.next ?_
 refine WC.condS Q0 (fun h1 => ?_) (fun h1 => ?_)
 ·
  replace h1 := of_decide_eq_true h1
  have hsl : s.l.length = a.l.length := by rw [hJ4]; simp [hJ3]; omega
  obtain ⟨d, hd0⟩ := exists_get (l := a.l) (k := n) Q7
  have hd : s.l[n]? = some d := by rw [hJ4]; exact step_get hJ3 hd0
  have hkl : n < s.l.length := by omega
  refine WC.skipn ?_
  refine WC.seq' ?_
  refine WC.block ?_
  refine WC.seq ?_
  refine Qm ?_
  refine Qm ?_
  refine Qm ?_
  refine WL.callp hs Q0 (Yc.func Q0 fn128) (c_laws_markText _ _ Q7) ?_
  clear hs; intro w hs
  refine WL.p Q0 (Yl.indexAddr slt34 Q0 Q0 (hs.okow (x := s) (F := F1) Q1) Q0 (hd)) ?_
  refine WL.p Q0 (Yl.fieldAddr fa180_0 Q0) ?_
  refine WL.s (Yr.storeP (s := s) (F := F1) (d := d) (u := (⟨(mkT (k + ((10 * n : Nat) : Int))), d.to, d.response, d.until_⟩ : TEntry)) (k := n) (j := 0) hs Q2 Q0 Q0 Q0 hd ⟨_, by rfl, by rfl⟩ Q3 (by exact own_part_flat ⟨(by first | exact (show WfS ((mkT (k + ((10 * n : Nat) : Int)))) from mkT_len Q7) | assumption | (refine Ph.old ?_ hs; assumption)), (Sl.Ok.elem (hs.okow (x := s) (F := F1) Q1) hd).to, (Sl.Ok.elem (hs.okow (x := s) (F := F1) Q1) hd).response, (Sl.Ok.elem (hs.okow (x := s) (F := F1) Q1) hd).until_⟩) Q0 (by exact szf9)) ?_
  clear hs; rintro _ w ⟨s1, _, rfl, hv1, hl1, hg1, hs⟩
  refine WL.next ?_
  refine WC.seq ?_
  refine Qm ?_
  refine WL.p Q0 (Yl.add Q0 Q0 Q7) ?_
  refine Qa ?_
  refine WL.next ?_
  refine WC.seq ?_
  refine Qm ?_
  refine Qm ?_
  refine Qm ?_
  refine WL.callp hs Q0 (Yc.func Q0 fn128) (c_laws_markText _ _ Q7) ?_
  clear hs; intro w hs
  refine WL.p Q0 (Yl.indexAddrV slt34 Q0 hv1 Q0 (hs.okow (x := s1) (F := F1) Q1) Q0 (hg1)) ?_
  refine WL.p Q0 (Yl.fieldAddr fa180_1 Q0) ?_
  refine WL.p Q0 (Yl.fieldAddr2 fa45_0 Q0) ?_
  refine WL.s (Yr.storeP (s := s1) (F := F1) (d := (⟨(mkT (k + ((10 * n : Nat) : Int))), d.to, d.response, d.until_⟩ : TEntry)) (u := (⟨(mkT (k + ((10 * n : Nat) : Int))), ⟨(mkT ((k + ((10 * n : Nat) : Int)) + 1)), d.to.path⟩, d.response, d.until_⟩ : TEntry)) (k := n) (j := 1) hs Q2 Q0 Q0 Q0 hg1 ⟨_, by rfl, by rfl⟩ Q3 (by exact own_part_flat ⟨(Sl.Ok.elem (hs.okow (x := s1) (F := F1) Q1) hg1).top, ⟨(by first | exact (show WfS ((mkT ((k + ((10 * n : Nat) : Int)) + 1))) from mkT_len Q7) | assumption | (refine Ph.old ?_ hs; assumption)), (Sl.Ok.elem (hs.okow (x := s1) (F := F1) Q1) hg1).to.path⟩, (Sl.Ok.elem (hs.okow (x := s1) (F := F1) Q1) hg1).response, (Sl.Ok.elem (hs.okow (x := s1) (F := F1) Q1) hg1).until_⟩) Q0 (by exact szf9)) ?_
  clear hs; rintro _ w ⟨s2, _, rfl, hv2, hl2, hg2, hs⟩
  refine WL.next ?_
  refine WC.seq ?_
  refine Qm ?_
  refine WL.p Q0 (Yl.add Q0 Q0 Q7) ?_
  refine Qa ?_
  refine WL.next ?_
  refine WC.seq ?_
  refine Qm ?_
  refine Qm ?_
  refine Qm ?_
  refine WL.callp hs Q0 (Yc.func Q0 fn128) (c_laws_markText _ _ Q7) ?_
  clear hs; intro w hs
  refine WL.p Q0 (Yl.indexAddrV slt34 Q0 (hv2.trans hv1) Q0 (hs.okow (x := s2) (F := F1) Q1) Q0 (hg2)) ?_
  refine WL.p Q0 (Yl.fieldAddr fa180_1 Q0) ?_
  refine WL.p Q0 (Yl.fieldAddr2 fa45_1 Q0) ?_
  refine WL.s (Yr.storeP (s := s2) (F := F1) (d := (⟨(mkT (k + ((10 * n : Nat) : Int))), ⟨(mkT ((k + ((10 * n : Nat) : Int)) + 1)), d.to.path⟩, d.response, d.until_⟩ : TEntry)) (u := (⟨(mkT (k + ((10 * n : Nat) : Int))), ⟨(mkT ((k + ((10 * n : Nat) : Int)) + 1)), (mkT (((k + ((10 * n : Nat) : Int)) + 1) + 1))⟩, d.response, d.until_⟩ : TEntry)) (k := n) (j := 2) hs Q2 Q0 Q0 Q0 hg2 ⟨_, by rfl, by rfl⟩ Q3 (by exact own_part_flat ⟨(Sl.Ok.elem (hs.okow (x := s2) (F := F1) Q1) hg2).top, ⟨(Sl.Ok.elem (hs.okow (x := s2) (F := F1) Q1) hg2).to.host, (by first | exact (show WfS ((mkT (((k + ((10 * n : Nat) : Int)) + 1) + 1))) from mkT_len Q7) | assumption | (refine Ph.old ?_ hs; assumption))⟩, (Sl.Ok.elem (hs.okow (x := s2) (F := F1) Q1) hg2).response, (Sl.Ok.elem (hs.okow (x := s2) (F := F1) Q1) hg2).until_⟩) Q0 (by exact szf9)) ?_
  clear hs; rintro _ w ⟨s3, _, rfl, hv3, hl3, hg3, hs⟩
  refine WL.next ?_
  refine WC.seq ?_
  refine Qm ?_
  refine WL.p Q0 (Yl.add Q0 Q0 Q7) ?_
  refine Qa ?_
  refine WL.next ?_
  refine WC.seq ?_
  refine Qm ?_
  refine Qm ?_
  refine Qm ?_
  refine WL.p Q0 (Yl.indexAddrV slt34 Q0 (hv3.trans (hv2.trans hv1)) Q0 (hs.okow (x := s3) (F := F1) Q1) Q0 (hg3)) ?_
  refine WL.p Q0 (Yl.fieldAddr fa180_2 Q0) ?_
  refine WL.p Q0 (Yl.fieldAddr2 fa41_0 Q0) ?_
  refine WL.s (Yr.storeP (s := s3) (F := F1) (d := (⟨(mkT (k + ((10 * n : Nat) : Int))), ⟨(mkT ((k + ((10 * n : Nat) : Int)) + 1)), (mkT (((k + ((10 * n : Nat) : Int)) + 1) + 1))⟩, d.response, d.until_⟩ : TEntry)) (u := (⟨(mkT (k + ((10 * n : Nat) : Int))), ⟨(mkT ((k + ((10 * n : Nat) : Int)) + 1)), (mkT (((k + ((10 * n : Nat) : Int)) + 1) + 1))⟩, ⟨((((k + ((10 * n : Nat) : Int)) + 1) + 1) + 1), d.response.kind, d.response.body, d.response.age, d.response.shares, d.response.policy⟩, d.until_⟩ : TEntry)) (k := n) (j := 3) hs Q2 Q0 Q0 Q0 hg3 ⟨_, by rfl, by rfl⟩ Q3 (by exact own_part_flat ⟨(Sl.Ok.elem (hs.okow (x := s3) (F := F1) Q1) hg3).top, (Sl.Ok.elem (hs.okow (x := s3) (F := F1) Q1) hg3).to, ⟨(by exact (show WfI (((((k + ((10 * n : Nat) : Int)) + 1) + 1) + 1)) from ⟨by omega, by omega⟩)), (Sl.Ok.elem (hs.okow (x := s3) (F := F1) Q1) hg3).response.kind, (Sl.Ok.elem (hs.okow (x := s3) (F := F1) Q1) hg3).response.body, (Sl.Ok.elem (hs.okow (x := s3) (F := F1) Q1) hg3).response.age, (Sl.Ok.elem (hs.okow (x := s3) (F := F1) Q1) hg3).response.shares, (Sl.Ok.elem (hs.okow (x := s3) (F := F1) Q1) hg3).response.policy⟩, (Sl.Ok.elem (hs.okow (x := s3) (F := F1) Q1) hg3).until_⟩) Q0 (by exact szf3)) ?_
  clear hs; rintro _ w ⟨s4, _, rfl, hv4, hl4, hg4, hs⟩
  refine WL.next ?_
  refine WC.seq ?_
  refine Qm ?_
  refine WL.p Q0 (Yl.add Q0 Q0 Q7) ?_
  refine Qa ?_
  refine WL.next ?_
  refine WC.seq ?_
  refine Qm ?_
  refine Qm ?_
  refine Qm ?_
  refine WL.p Q0 (Yl.indexAddrV slt34 Q0 (hv4.trans (hv3.trans (hv2.trans hv1))) Q0 (hs.okow (x := s4) (F := F1) Q1) Q0 (hg4)) ?_
  refine WL.p Q0 (Yl.fieldAddr fa180_2 Q0) ?_
  refine WL.p Q0 (Yl.fieldAddr2 fa41_1 Q0) ?_
  refine WL.s (Yr.storeP (s := s4) (F := F1) (d := (⟨(mkT (k + ((10 * n : Nat) : Int))), ⟨(mkT ((k + ((10 * n : Nat) : Int)) + 1)), (mkT (((k + ((10 * n : Nat) : Int)) + 1) + 1))⟩, ⟨((((k + ((10 * n : Nat) : Int)) + 1) + 1) + 1), d.response.kind, d.response.body, d.response.age, d.response.shares, d.response.policy⟩, d.until_⟩ : TEntry)) (u := (⟨(mkT (k + ((10 * n : Nat) : Int))), ⟨(mkT ((k + ((10 * n : Nat) : Int)) + 1)), (mkT (((k + ((10 * n : Nat) : Int)) + 1) + 1))⟩, ⟨((((k + ((10 * n : Nat) : Int)) + 1) + 1) + 1), (((((k + ((10 * n : Nat) : Int)) + 1) + 1) + 1) + 1), d.response.body, d.response.age, d.response.shares, d.response.policy⟩, d.until_⟩ : TEntry)) (k := n) (j := 4) hs Q2 Q0 Q0 Q0 hg4 ⟨_, by rfl, by rfl⟩ Q3 (by exact own_part_flat ⟨(Sl.Ok.elem (hs.okow (x := s4) (F := F1) Q1) hg4).top, (Sl.Ok.elem (hs.okow (x := s4) (F := F1) Q1) hg4).to, ⟨(Sl.Ok.elem (hs.okow (x := s4) (F := F1) Q1) hg4).response.status, (by exact (show WfI ((((((k + ((10 * n : Nat) : Int)) + 1) + 1) + 1) + 1)) from ⟨by omega, by omega⟩)), (Sl.Ok.elem (hs.okow (x := s4) (F := F1) Q1) hg4).response.body, (Sl.Ok.elem (hs.okow (x := s4) (F := F1) Q1) hg4).response.age, (Sl.Ok.elem (hs.okow (x := s4) (F := F1) Q1) hg4).response.shares, (Sl.Ok.elem (hs.okow (x := s4) (F := F1) Q1) hg4).response.policy⟩, (Sl.Ok.elem (hs.okow (x := s4) (F := F1) Q1) hg4).until_⟩) Q0 (by exact szf3)) ?_
  clear hs; rintro _ w ⟨s5, _, rfl, hv5, hl5, hg5, hs⟩
  refine WL.next ?_
  refine WC.seq ?_
  refine Qm ?_
  refine WL.p Q0 (Yl.add Q0 Q0 Q7) ?_
  refine Qa ?_
  refine WL.next ?_
  refine WC.seq ?_
  refine Qm ?_
  refine Qm ?_
  refine Qm ?_
  refine WL.callp hs Q0 (Yc.func Q0 fn128) (c_laws_markText _ _ Q7) ?_
  clear hs; intro w hs
  refine WL.p Q0 (Yl.indexAddrV slt34 Q0 (hv5.trans (hv4.trans (hv3.trans (hv2.trans hv1)))) Q0 (hs.okow (x := s5) (F := F1) Q1) Q0 (hg5)) ?_
  refine WL.p Q0 (Yl.fieldAddr fa180_2 Q0) ?_
  refine WL.p Q0 (Yl.fieldAddr2 fa41_2 Q0) ?_
  refine WL.s (Yr.storeP (s := s5) (F := F1) (d := (⟨(mkT (k + ((10 * n : Nat) : Int))), ⟨(mkT ((k + ((10 * n : Nat) : Int)) + 1)), (mkT (((k + ((10 * n : Nat) : Int)) + 1) + 1))⟩, ⟨((((k + ((10 * n : Nat) : Int)) + 1) + 1) + 1), (((((k + ((10 * n : Nat) : Int)) + 1) + 1) + 1) + 1), d.response.body, d.response.age, d.response.shares, d.response.policy⟩, d.until_⟩ : TEntry)) (u := (⟨(mkT (k + ((10 * n : Nat) : Int))), ⟨(mkT ((k + ((10 * n : Nat) : Int)) + 1)), (mkT (((k + ((10 * n : Nat) : Int)) + 1) + 1))⟩, ⟨((((k + ((10 * n : Nat) : Int)) + 1) + 1) + 1), (((((k + ((10 * n : Nat) : Int)) + 1) + 1) + 1) + 1), (mkT ((((((k + ((10 * n : Nat) : Int)) + 1) + 1) + 1) + 1) + 1)), d.response.age, d.response.shares, d.response.policy⟩, d.until_⟩ : TEntry)) (k := n) (j := 5) hs Q2 Q0 Q0 Q0 hg5 ⟨_, by rfl, by rfl⟩ Q3 (by exact own_part_flat ⟨(Sl.Ok.elem (hs.okow (x := s5) (F := F1) Q1) hg5).top, (Sl.Ok.elem (hs.okow (x := s5) (F := F1) Q1) hg5).to, ⟨(Sl.Ok.elem (hs.okow (x := s5) (F := F1) Q1) hg5).response.status, (Sl.Ok.elem (hs.okow (x := s5) (F := F1) Q1) hg5).response.kind, (by first | exact (show WfS ((mkT ((((((k + ((10 * n : Nat) : Int)) + 1) + 1) + 1) + 1) + 1))) from mkT_len Q7) | assumption | (refine Ph.old ?_ hs; assumption)), (Sl.Ok.elem (hs.okow (x := s5) (F := F1) Q1) hg5).response.age, (Sl.Ok.elem (hs.okow (x := s5) (F := F1) Q1) hg5).response.shares, (Sl.Ok.elem (hs.okow (x := s5) (F := F1) Q1) hg5).response.policy⟩, (Sl.Ok.elem (hs.okow (x := s5) (F := F1) Q1) hg5).until_⟩) Q0 (by exact szf9)) ?_
  clear hs; rintro _ w ⟨s6, _, rfl, hv6, hl6, hg6, hs⟩
  refine WL.next ?_
  refine WC.seq ?_
  refine Qm ?_
  refine WL.p Q0 (Yl.add Q0 Q0 Q7) ?_
  refine Qa ?_
  refine WL.next ?_
  refine WC.seq ?_
  refine Qm ?_
  refine Qm ?_
  refine Qm ?_
  refine WL.p Q0 (Yl.indexAddrV slt34 Q0 (hv6.trans (hv5.trans (hv4.trans (hv3.trans (hv2.trans hv1))))) Q0 (hs.okow (x := s6) (F := F1) Q1) Q0 (hg6)) ?_
  refine WL.p Q0 (Yl.fieldAddr fa180_2 Q0) ?_
  refine WL.p Q0 (Yl.fieldAddr2 fa41_3 Q0) ?_
  refine WL.s (Yr.storeP (s := s6) (F := F1) (d := (⟨(mkT (k + ((10 * n : Nat) : Int))), ⟨(mkT ((k + ((10 * n : Nat) : Int)) + 1)), (mkT (((k + ((10 * n : Nat) : Int)) + 1) + 1))⟩, ⟨((((k + ((10 * n : Nat) : Int)) + 1) + 1) + 1), (((((k + ((10 * n : Nat) : Int)) + 1) + 1) + 1) + 1), (mkT ((((((k + ((10 * n : Nat) : Int)) + 1) + 1) + 1) + 1) + 1)), d.response.age, d.response.shares, d.response.policy⟩, d.until_⟩ : TEntry)) (u := (⟨(mkT (k + ((10 * n : Nat) : Int))), ⟨(mkT ((k + ((10 * n : Nat) : Int)) + 1)), (mkT (((k + ((10 * n : Nat) : Int)) + 1) + 1))⟩, ⟨((((k + ((10 * n : Nat) : Int)) + 1) + 1) + 1), (((((k + ((10 * n : Nat) : Int)) + 1) + 1) + 1) + 1), (mkT ((((((k + ((10 * n : Nat) : Int)) + 1) + 1) + 1) + 1) + 1)), (((((((k + ((10 * n : Nat) : Int)) + 1) + 1) + 1) + 1) + 1) + 1), d.response.shares, d.response.policy⟩, d.until_⟩ : TEntry)) (k := n) (j := 6) hs Q2 Q0 Q0 Q0 hg6 ⟨_, by rfl, by rfl⟩ Q3 (by exact own_part_flat ⟨(Sl.Ok.elem (hs.okow (x := s6) (F := F1) Q1) hg6).top, (Sl.Ok.elem (hs.okow (x := s6) (F := F1) Q1) hg6).to, ⟨(Sl.Ok.elem (hs.okow (x := s6) (F := F1) Q1) hg6).response.status, (Sl.Ok.elem (hs.okow (x := s6) (F := F1) Q1) hg6).response.kind, (Sl.Ok.elem (hs.okow (x := s6) (F := F1) Q1) hg6).response.body, (by exact (show WfI ((((((((k + ((10 * n : Nat) : Int)) + 1) + 1) + 1) + 1) + 1) + 1)) from ⟨by omega, by omega⟩)), (Sl.Ok.elem (hs.okow (x := s6) (F := F1) Q1) hg6).response.shares, (Sl.Ok.elem (hs.okow (x := s6) (F := F1) Q1) hg6).response.policy⟩, (Sl.Ok.elem (hs.okow (x := s6) (F := F1) Q1) hg6).until_⟩) Q0 (by exact szf3)) ?_
  clear hs; rintro _ w ⟨s7, _, rfl, hv7, hl7, hg7, hs⟩
  refine WL.next ?_
  refine WC.seq ?_
  refine Qm ?_
  refine WL.p Q0 (Yl.add Q0 Q0 Q7) ?_
  refine Qa ?_
  refine WL.next ?_
  refine WC.seq ?_
  refine Qm ?_
  refine Qm ?_
  refine Qm ?_
  refine WL.p Q0 (Yl.remw Q0 Q0 (by decide)) ?_
  refine WL.p Q0 (Yl.eqi Q0 Q0) ?_
  refine WL.p Q0 (Yl.indexAddrV slt34 Q0 (hv7.trans (hv6.trans (hv5.trans (hv4.trans (hv3.trans (hv2.trans hv1)))))) Q0 (hs.okow (x := s7) (F := F1) Q1) Q0 (hg7)) ?_
  refine WL.p Q0 (Yl.fieldAddr fa180_2 Q0) ?_
  refine WL.p Q0 (Yl.fieldAddr2 fa41_4 Q0) ?_
  refine WL.s (Yr.storeP (s := s7) (F := F1) (d := (⟨(mkT (k + ((10 * n : Nat) : Int))), ⟨(mkT ((k + ((10 * n : Nat) : Int)) + 1)), (mkT (((k + ((10 * n : Nat) : Int)) + 1) + 1))⟩, ⟨((((k + ((10 * n : Nat) : Int)) + 1) + 1) + 1), (((((k + ((10 * n : Nat) : Int)) + 1) + 1) + 1) + 1), (mkT ((((((k + ((10 * n : Nat) : Int)) + 1) + 1) + 1) + 1) + 1)), (((((((k + ((10 * n : Nat) : Int)) + 1) + 1) + 1) + 1) + 1) + 1), d.response.shares, d.response.policy⟩, d.until_⟩ : TEntry)) (u := (⟨(mkT (k + ((10 * n : Nat) : Int))), ⟨(mkT ((k + ((10 * n : Nat) : Int)) + 1)), (mkT (((k + ((10 * n : Nat) : Int)) + 1) + 1))⟩, ⟨((((k + ((10 * n : Nat) : Int)) + 1) + 1) + 1), (((((k + ((10 * n : Nat) : Int)) + 1) + 1) + 1) + 1), (mkT ((((((k + ((10 * n : Nat) : Int)) + 1) + 1) + 1) + 1) + 1)), (((((((k + ((10 * n : Nat) : Int)) + 1) + 1) + 1) + 1) + 1) + 1), (decide ((Int.tmod ((((((((k + ((10 * n : Nat) : Int)) + 1) + 1) + 1) + 1) + 1) + 1) + 1) 3) = 0)), d.response.policy⟩, d.until_⟩ : TEntry)) (k := n) (j := 7) hs Q2 Q0 Q0 Q0 hg7 ⟨_, by rfl, by rfl⟩ Q3 (by exact own_part_flat ⟨(Sl.Ok.elem (hs.okow (x := s7) (F := F1) Q1) hg7).top, (Sl.Ok.elem (hs.okow (x := s7) (F := F1) Q1) hg7).to, ⟨(Sl.Ok.elem (hs.okow (x := s7) (F := F1) Q1) hg7).response.status, (Sl.Ok.elem (hs.okow (x := s7) (F := F1) Q1) hg7).response.kind, (Sl.Ok.elem (hs.okow (x := s7) (F := F1) Q1) hg7).response.body, (Sl.Ok.elem (hs.okow (x := s7) (F := F1) Q1) hg7).response.age, (by trivial), (Sl.Ok.elem (hs.okow (x := s7) (F := F1) Q1) hg7).response.policy⟩, (Sl.Ok.elem (hs.okow (x := s7) (F := F1) Q1) hg7).until_⟩) Q0 (by exact szf4)) ?_
  clear hs; rintro _ w ⟨s8, _, rfl, hv8, hl8, hg8, hs⟩
  refine WL.next ?_
  refine WC.seq ?_
  refine Qm ?_
  refine WL.p Q0 (Yl.add Q0 Q0 Q7) ?_
  refine Qa ?_
  refine WL.next ?_
  refine WC.seq ?_
  refine Qm ?_
  refine Qm ?_
  refine Qm ?_
  refine WL.callp hs Q0 (Yc.func Q0 fn128) (c_laws_markText _ _ Q7) ?_
  clear hs; intro w hs
  refine WL.p Q0 (Yl.indexAddrV slt34 Q0 (hv8.trans (hv7.trans (hv6.trans (hv5.trans (hv4.trans (hv3.trans (hv2.trans hv1))))))) Q0 (hs.okow (x := s8) (F := F1) Q1) Q0 (hg8)) ?_
  refine WL.p Q0 (Yl.fieldAddr fa180_2 Q0) ?_
  refine WL.p Q0 (Yl.fieldAddr2 fa41_5 Q0) ?_
  refine WL.s (Yr.storeP (s := s8) (F := F1) (d := (⟨(mkT (k + ((10 * n : Nat) : Int))), ⟨(mkT ((k + ((10 * n : Nat) : Int)) + 1)), (mkT (((k + ((10 * n : Nat) : Int)) + 1) + 1))⟩, ⟨((((k + ((10 * n : Nat) : Int)) + 1) + 1) + 1), (((((k + ((10 * n : Nat) : Int)) + 1) + 1) + 1) + 1), (mkT ((((((k + ((10 * n : Nat) : Int)) + 1) + 1) + 1) + 1) + 1)), (((((((k + ((10 * n : Nat) : Int)) + 1) + 1) + 1) + 1) + 1) + 1), (decide ((Int.tmod ((((((((k + ((10 * n : Nat) : Int)) + 1) + 1) + 1) + 1) + 1) + 1) + 1) 3) = 0)), d.response.policy⟩, d.until_⟩ : TEntry)) (u := (⟨(mkT (k + ((10 * n : Nat) : Int))), ⟨(mkT ((k + ((10 * n : Nat) : Int)) + 1)), (mkT (((k + ((10 * n : Nat) : Int)) + 1) + 1))⟩, ⟨((((k + ((10 * n : Nat) : Int)) + 1) + 1) + 1), (((((k + ((10 * n : Nat) : Int)) + 1) + 1) + 1) + 1), (mkT ((((((k + ((10 * n : Nat) : Int)) + 1) + 1) + 1) + 1) + 1)), (((((((k + ((10 * n : Nat) : Int)) + 1) + 1) + 1) + 1) + 1) + 1), (decide ((Int.tmod ((((((((k + ((10 * n : Nat) : Int)) + 1) + 1) + 1) + 1) + 1) + 1) + 1) 3) = 0)), (mkT (((((((((k + ((10 * n : Nat) : Int)) + 1) + 1) + 1) + 1) + 1) + 1) + 1) + 1))⟩, d.until_⟩ : TEntry)) (k := n) (j := 8) hs Q2 Q0 Q0 Q0 hg8 ⟨_, by rfl, by rfl⟩ Q3 (by exact own_part_flat ⟨(Sl.Ok.elem (hs.okow (x := s8) (F := F1) Q1) hg8).top, (Sl.Ok.elem (hs.okow (x := s8) (F := F1) Q1) hg8).to, ⟨(Sl.Ok.elem (hs.okow (x := s8) (F := F1) Q1) hg8).response.status, (Sl.Ok.elem (hs.okow (x := s8) (F := F1) Q1) hg8).response.kind, (Sl.Ok.elem (hs.okow (x := s8) (F := F1) Q1) hg8).response.body, (Sl.Ok.elem (hs.okow (x := s8) (F := F1) Q1) hg8).response.age, (Sl.Ok.elem (hs.okow (x := s8) (F := F1) Q1) hg8).response.shares, (by first | exact (show WfS ((mkT (((((((((k + ((10 * n : Nat) : Int)) + 1) + 1) + 1) + 1) + 1) + 1) + 1) + 1))) from mkT_len Q7) | assumption | (refine Ph.old ?_ hs; assumption))⟩, (Sl.Ok.elem (hs.okow (x := s8) (F := F1) Q1) hg8).until_⟩) Q0 (by exact szf9)) ?_
  clear hs; rintro _ w ⟨s9, _, rfl, hv9, hl9, hg9, hs⟩
  refine WL.next ?_
  refine WC.seq ?_
  refine Qm ?_
  refine WL.p Q0 (Yl.add Q0 Q0 Q7) ?_
  refine Qa ?_
  refine WL.next ?_
  refine WC.seq ?_
  refine Qm ?_
  refine Qm ?_
  refine Qm ?_
  refine WL.p Q0 (Yl.indexAddrV slt34 Q0 (hv9.trans (hv8.trans (hv7.trans (hv6.trans (hv5.trans (hv4.trans (hv3.trans (hv2.trans hv1)))))))) Q0 (hs.okow (x := s9) (F := F1) Q1) Q0 (hg9)) ?_
  refine WL.p Q0 (Yl.fieldAddr fa180_3 Q0) ?_
  refine WL.s (Yr.storeP (s := s9) (F := F1) (d := (⟨(mkT (k + ((10 * n : Nat) : Int))), ⟨(mkT ((k + ((10 * n : Nat) : Int)) + 1)), (mkT (((k + ((10 * n : Nat) : Int)) + 1) + 1))⟩, ⟨((((k + ((10 * n : Nat) : Int)) + 1) + 1) + 1), (((((k + ((10 * n : Nat) : Int)) + 1) + 1) + 1) + 1), (mkT ((((((k + ((10 * n : Nat) : Int)) + 1) + 1) + 1) + 1) + 1)), (((((((k + ((10 * n : Nat) : Int)) + 1) + 1) + 1) + 1) + 1) + 1), (decide ((Int.tmod ((((((((k + ((10 * n : Nat) : Int)) + 1) + 1) + 1) + 1) + 1) + 1) + 1) 3) = 0)), (mkT (((((((((k + ((10 * n : Nat) : Int)) + 1) + 1) + 1) + 1) + 1) + 1) + 1) + 1))⟩, d.until_⟩ : TEntry)) (u := (⟨(mkT (k + ((10 * n : Nat) : Int))), ⟨(mkT ((k + ((10 * n : Nat) : Int)) + 1)), (mkT (((k + ((10 * n : Nat) : Int)) + 1) + 1))⟩, ⟨((((k + ((10 * n : Nat) : Int)) + 1) + 1) + 1), (((((k + ((10 * n : Nat) : Int)) + 1) + 1) + 1) + 1), (mkT ((((((k + ((10 * n : Nat) : Int)) + 1) + 1) + 1) + 1) + 1)), (((((((k + ((10 * n : Nat) : Int)) + 1) + 1) + 1) + 1) + 1) + 1), (decide ((Int.tmod ((((((((k + ((10 * n : Nat) : Int)) + 1) + 1) + 1) + 1) + 1) + 1) + 1) 3) = 0)), (mkT (((((((((k + ((10 * n : Nat) : Int)) + 1) + 1) + 1) + 1) + 1) + 1) + 1) + 1))⟩, ((((((((((k + ((10 * n : Nat) : Int)) + 1) + 1) + 1) + 1) + 1) + 1) + 1) + 1) + 1)⟩ : TEntry)) (k := n) (j := 9) hs Q2 Q0 Q0 Q0 hg9 ⟨_, by rfl, by rfl⟩ Q3 (by exact own_part_flat ⟨(Sl.Ok.elem (hs.okow (x := s9) (F := F1) Q1) hg9).top, (Sl.Ok.elem (hs.okow (x := s9) (F := F1) Q1) hg9).to, (Sl.Ok.elem (hs.okow (x := s9) (F := F1) Q1) hg9).response, (by exact (show WfI (((((((((((k + ((10 * n : Nat) : Int)) + 1) + 1) + 1) + 1) + 1) + 1) + 1) + 1) + 1)) from ⟨by omega, by omega⟩))⟩) Q0 (by exact szf3)) ?_
  clear hs; rintro _ w ⟨s10, _, rfl, hv10, hl10, hg10, hs⟩
  refine WL.next ?_
  refine WC.region ?_
  refine Qm ?_
  refine WL.p Q0 (Yl.add Q0 Q0 Q7) ?_
  refine Qa ?_
  refine WL.nil ?_
  refine At.blocknormal ?_
  refine At.then_ ?_
  refine WC.region ?_
  refine Qm ?_
  refine WL.p Q0 (Yl.add Q0 Q0 Q7) ?_
  refine Qa ?_
  refine WL.nil ?_
  refine At.roundC (n + 1, s10, F1, p ++ [(⟨(mkT (k + ((10 * n : Nat) : Int))), ⟨(mkT ((k + ((10 * n : Nat) : Int)) + 1)), (mkT (((k + ((10 * n : Nat) : Int)) + 1) + 1))⟩, ⟨((((k + ((10 * n : Nat) : Int)) + 1) + 1) + 1), (((((k + ((10 * n : Nat) : Int)) + 1) + 1) + 1) + 1), (mkT ((((((k + ((10 * n : Nat) : Int)) + 1) + 1) + 1) + 1) + 1)), (((((((k + ((10 * n : Nat) : Int)) + 1) + 1) + 1) + 1) + 1) + 1), (decide ((Int.tmod ((((((((k + ((10 * n : Nat) : Int)) + 1) + 1) + 1) + 1) + 1) + 1) + 1) 3) = 0)), (mkT (((((((((k + ((10 * n : Nat) : Int)) + 1) + 1) + 1) + 1) + 1) + 1) + 1) + 1))⟩, ((((((((((k + ((10 * n : Nat) : Int)) + 1) + 1) + 1) + 1) + 1) + 1) + 1) + 1) + 1)⟩ : TEntry)]) (hs.only Q2) ⟨by rfl, trivial⟩ ⟨by rfl, by exact congrArg (fun z => some (I z)) Q7, by exact congrArg some (hv10.trans (hv9.trans (hv8.trans (hv7.trans (hv6.trans (hv5.trans (hv4.trans (hv3.trans (hv2.trans hv1))))))))).symm, trivial⟩ ?_ ?_
  ·
   show a.l.length - (n + 1) < a.l.length - n
   omega
  ·
   refine ⟨by omega, (hv10.trans (hv9.trans (hv8.trans (hv7.trans (hv6.trans (hv5.trans (hv4.trans (hv3.trans (hv2.trans hv1))))))))).trans hJ2, by simp [hJ3], ?_, ?_⟩
   · rw [hl10, hl9, hl8, hl7, hl6, hl5, hl4, hl3, hl2, hl1]; simp only [List.set_set]; rw [hJ4]; exact step_set hJ3 Q7
   · rw [mkL_step hd0, hJ5, costL_take_const Q7]; rfl
 ·
  replace h1 := of_decide_eq_false h1
  refine WC.exit ?_
  refine At.thenexit ?_
  refine At.thenexit ?_
  refine At.blockexit ?_
  refine At.then_ ?_
  refine WC.seq ?_
  refine Qm ?_
  refine Qa ?_
  refine WL.next ?_
  refine WC.ret ?_
  refine fin1' rfl Q0 ?_
  have hsl : s.l.length = a.l.length := by rw [hJ4]; simp [hJ3]; omega
  have hn2 : n = a.l.length := by omega
  subst hn2
  rw [costL_const]
  refine RetM.cast (congrArg I Q7) ?_
  exact RetM.of hs Q1 (Sl.v_enc hJ2) (by rw [hJ4, List.drop_length, List.append_nil, hJ5, List.take_length])

theorem c_laws_markCache (a : PCache) (k : Int) (w : World) (F : List Nat) (hF : Own.own w a F) (hn : F.Nodup)  (hk0 : 0 ≤ k) (hk : k + ((costoCache a.lg : Nat) : Int) ≤ 100000000) : Calls Tryz.prog 80 [.agg #[Sl.v a.entries], I k].toArray w (RetM w a F (I (k + ((costoCache a.lg : Nat) : Int))) (fun a' => a'.lg = mkoCache k a.lg)) := by
 have hk2 := hk
 simp only [costoCache, costoCache, PToken.lg, PNode.lg, PBuilder.lg, PSheet.lg, PPolicy.lg, PServer.lg, PCache.lg, PNet.lg, PPage.lg] at hk2
 refine enterN 10 Tryz.func80 rfl rfl rfl ?_
 have hs := Sat.markStart hF hn
 obtain ⟨G0, hfl, hs⟩ := PCache.split hs
 refine WC.seq ?_
 refine WL.r Q0 (Yr.box hs Q0 Q0) ?_
 clear hs; rintro _ w ⟨b1, rfl, hb, hs⟩; clear hb
 refine Qa ?_
 refine WL.next ?_
 refine WC.seq ?_
 refine WL.p Q0 (Yl.fieldAddr fa36_0 Q0) ?_
 refine WL.p Q0 (Yl.loadB sca34 Q0 hs Q1 Q0) ?_
 refine Qm ?_
 refine WL.callm (a := a.entries) (F := G0) hs Q2 Q0 (Yc.func Q0 fn151) (c_laws_markEntryS a.entries _ _ G0 (own_of hs Q1) (nodup_of hs Q1) Q11 Q11) ?_
 clear hs; intro a2 F2 w he2 hq2 hs
 refine Qa ?_
 refine WL.next ?_
 refine WC.seq ?_
 refine Qm ?_
 refine Qa ?_
 refine WL.next ?_
 refine WC.ret ?_
 refine fin1' rfl Q0 ?_
 refine RetM.cast (congrArg I (by first | rfl | (simp only [costoCache, costoCache, PToken.lg, PNode.lg, PBuilder.lg, PSheet.lg, PPolicy.lg, PServer.lg, PCache.lg, PNet.lg, PPage.lg]; omega))) ?_
 exact RetM.of (a' := ⟨a2⟩) (PCache.join ⟨a2⟩ (hs.only (D := [ow a2 F2]) Q2) ) List.mem_cons_self (by show [Sl.v a2] = [Sl.v a.entries]; rw [show Sl.v a2 = Sl.v a.entries from Sl.enc_v he2]) (by simp only [PCache.lg, mkoCache]; rw [show a2.l = _ from hq2])

theorem c_laws_markSentS (a : (Sl TSent)) (k : Int) (w : World) (F : List Nat) (hF : Own.own w a F) (hn : F.Nodup)  (hk0 : 0 ≤ k) (hk : k + ((costL (fun _ => 4) (a.l) : Nat) : Int) ≤ 100000000) : Calls Tryz.prog 81 [Sl.v a, I k].toArray w (RetM w a F (I (k + ((costL (fun _ => 4) (a.l) : Nat) : Int))) (fun a' => a'.l = mkL mkSent (fun _ => 4) k (a.l))) := by
 have hw := (Own.ok hF : Sl.Ok w a).lt
 have hk2 := hk
 rw [costL_const] at hk2
 refine enterN 48 Tryz.func81 rfl rfl rfl ?_
 have hs := Sat.markStart hF hn
 refine WC.seq ?_
 refine Qa ?_
 refine WL.next ?_
 refine WC.seq' ?_
 refine WC.seq ?_
 refine Qa ?_
 refine WL.next ?_
 refine WC.block ?_
 refine WC.loopC (ι := Nat × Sl TSent × List Nat × List TSent) (fun ⟨n, s, F1, p⟩ => a.l.length - n) (fun ⟨n, s, F1, p⟩ => [(5, I (n : Int)), (1, I (k + ((4 * n : Nat) : Int))), (0, s.v)]) (fun ⟨n, s, F1, p⟩ => [ow s F1]) (fun ⟨n, s, F1, p⟩ => n ≤ a.l.length ∧ s.v = a.v ∧ p.length = n ∧ s.l = p ++ a.l.drop n ∧ p = mkL mkSent (fun _ => 4) k (a.l.take n)) [(4, _)] (0, a, F, []) (hs.sel (D := [ow a F]) Q2) ⟨by rfl, trivial⟩ ⟨by rfl, by exact congrArg (fun z => some (I z)) Q7, by rfl, trivial⟩ ?_ ?_
 ·
  exact ⟨Nat.zero_le _, rfl, rfl, by simp, by simp [mkL]⟩
 clear hs; rintro ⟨n, s, F1, p⟩ w ⟨hJ1, hJ2, hJ3, hJ4, hJ5⟩ hs
 simp only [List.cons_append, List.nil_append] at hs
 refine WC.seq' ?_
 refine WC.seq ?_
 refine Qm ?_
 refine Qm ?_
 refine WL.p Q0 (Yl.len_sl slu37 Q0) ?_
 refine WL.p Q0 (Yl.lss Q0 Q0) ?_
 refine WL.next ?_
 refine WC.condS Q0 (fun h1 => ?_) (fun h1 => ?_)
 ·
  replace h1 := of_decide_eq_true h1
  have hsl : s.l.length = a.l.length := by rw [hJ4]; simp [hJ3]; omega
  obtain ⟨d, hd0⟩ := exists_get (l := a.l) (k := n) Q7
  have hd : s.l[n]? = some d := by rw [hJ4]; exact step_get hJ3 hd0
  have hkl : n < s.l.length := by omega
  refine WC.skipn ?_
  refine WC.seq' ?_
  refine WC.block ?_
  refine WC.seq ?_
  refine Qm ?_
  refine Qm ?_
  refine Qm ?_
  refine WL.callp hs Q0 (Yc.func Q0 fn128) (c_laws_markText _ _ Q7) ?_
  clear hs; intro w hs
  refine WL.p Q0 (Yl.indexAddr slt37 Q0 Q0 (hs.okow (x := s) (F := F1) Q1) Q0 (hd)) ?_
  refine WL.p Q0 (Yl.fieldAddr fa123_0 Q0) ?_
  refine WL.s (Yr.storeP (s := s) (F := F1) (d := d) (u := (⟨(mkT (k + ((4 * n : Nat) : Int))), d.to, d.guess⟩ : TSent)) (k := n) (j := 0) hs Q2 Q0 Q0 Q0 hd ⟨_, by rfl, by rfl⟩ Q3 (by exact own_part_flat ⟨(by first | exact (show WfS ((mkT (k + ((4 * n : Nat) : Int)))) from mkT_len Q7) | assumption | (refine Ph.old ?_ hs; assumption)), (Sl.Ok.elem (hs.okow (x := s) (F := F1) Q1) hd).to, (Sl.Ok.elem (hs.okow (x := s) (F := F1) Q1) hd).guess⟩) Q0 (by exact szf9)) ?_
  clear hs; rintro _ w ⟨s1, _, rfl, hv1, hl1, hg1, hs⟩
  refine WL.next ?_
  refine WC.seq ?_
  refine Qm ?_
  refine WL.p Q0 (Yl.add Q0 Q0 Q7) ?_
  refine Qa ?_
  refine WL.next ?_
  refine WC.seq ?_
  refine Qm ?_
  refine Qm ?_
  refine Qm ?_
  refine WL.callp hs Q0 (Yc.func Q0 fn128) (c_laws_markText _ _ Q7) ?_
  clear hs; intro w hs
  refine WL.p Q0 (Yl.indexAddrV slt37 Q0 hv1 Q0 (hs.okow (x := s1) (F := F1) Q1) Q0 (hg1)) ?_
  refine WL.p Q0 (Yl.fieldAddr fa123_1 Q0) ?_
  refine WL.p Q0 (Yl.fieldAddr2 fa45_0 Q0) ?_
  refine WL.s (Yr.storeP (s := s1) (F := F1) (d := (⟨(mkT (k + ((4 * n : Nat) : Int))), d.to, d.guess⟩ : TSent)) (u := (⟨(mkT (k + ((4 * n : Nat) : Int))), ⟨(mkT ((k + ((4 * n : Nat) : Int)) + 1)), d.to.path⟩, d.guess⟩ : TSent)) (k := n) (j := 1) hs Q2 Q0 Q0 Q0 hg1 ⟨_, by rfl, by rfl⟩ Q3 (by exact own_part_flat ⟨(Sl.Ok.elem (hs.okow (x := s1) (F := F1) Q1) hg1).top, ⟨(by first | exact (show WfS ((mkT ((k + ((4 * n : Nat) : Int)) + 1))) from mkT_len Q7) | assumption | (refine Ph.old ?_ hs; assumption)), (Sl.Ok.elem (hs.okow (x := s1) (F := F1) Q1) hg1).to.path⟩, (Sl.Ok.elem (hs.okow (x := s1) (F := F1) Q1) hg1).guess⟩) Q0 (by exact szf9)) ?_
  clear hs; rintro _ w ⟨s2, _, rfl, hv2, hl2, hg2, hs⟩
  refine WL.next ?_
  refine WC.seq ?_
  refine Qm ?_
  refine WL.p Q0 (Yl.add Q0 Q0 Q7) ?_
  refine Qa ?_
  refine WL.next ?_
  refine WC.seq ?_
  refine Qm ?_
  refine Qm ?_
  refine Qm ?_
  refine WL.callp hs Q0 (Yc.func Q0 fn128) (c_laws_markText _ _ Q7) ?_
  clear hs; intro w hs
  refine WL.p Q0 (Yl.indexAddrV slt37 Q0 (hv2.trans hv1) Q0 (hs.okow (x := s2) (F := F1) Q1) Q0 (hg2)) ?_
  refine WL.p Q0 (Yl.fieldAddr fa123_1 Q0) ?_
  refine WL.p Q0 (Yl.fieldAddr2 fa45_1 Q0) ?_
  refine WL.s (Yr.storeP (s := s2) (F := F1) (d := (⟨(mkT (k + ((4 * n : Nat) : Int))), ⟨(mkT ((k + ((4 * n : Nat) : Int)) + 1)), d.to.path⟩, d.guess⟩ : TSent)) (u := (⟨(mkT (k + ((4 * n : Nat) : Int))), ⟨(mkT ((k + ((4 * n : Nat) : Int)) + 1)), (mkT (((k + ((4 * n : Nat) : Int)) + 1) + 1))⟩, d.guess⟩ : TSent)) (k := n) (j := 2) hs Q2 Q0 Q0 Q0 hg2 ⟨_, by rfl, by rfl⟩ Q3 (by exact own_part_flat ⟨(Sl.Ok.elem (hs.okow (x := s2) (F := F1) Q1) hg2).top, ⟨(Sl.Ok.elem (hs.okow (x := s2) (F := F1) Q1) hg2).to.host, (by first | exact (show WfS ((mkT (((k + ((4 * n : Nat) : Int)) + 1) + 1))) from mkT_len Q7) | assumption | (refine Ph.old ?_ hs; assumption))⟩, (Sl.Ok.elem (hs.okow (x := s2) (F := F1) Q1) hg2).guess⟩) Q0 (by exact szf9)) ?_
  clear hs; rintro _ w ⟨s3, _, rfl, hv3, hl3, hg3, hs⟩
  refine WL.next ?_
  refine WC.seq ?_
  refine Qm ?_
  refine WL.p Q0 (Yl.add Q0 Q0 Q7) ?_
  refine Qa ?_
  refine WL.next ?_
  refine WC.seq ?_
  refine Qm ?_
  refine Qm ?_
  refine Qm ?_
  refine WL.p Q0 (Yl.remw Q0 Q0 (by decide)) ?_
  refine WL.p Q0 (Yl.eqi Q0 Q0) ?_
  refine WL.p Q0 (Yl.indexAddrV slt37 Q0 (hv3.trans (hv2.trans hv1)) Q0 (hs.okow (x := s3) (F := F1) Q1) Q0 (hg3)) ?_
  refine WL.p Q0 (Yl.fieldAddr fa123_2 Q0) ?_
  refine WL.s (Yr.storeP (s := s3) (F := F1) (d := (⟨(mkT (k + ((4 * n : Nat) : Int))), ⟨(mkT ((k + ((4 * n : Nat) : Int)) + 1)), (mkT (((k + ((4 * n : Nat) : Int)) + 1) + 1))⟩, d.guess⟩ : TSent)) (u := (⟨(mkT (k + ((4 * n : Nat) : Int))), ⟨(mkT ((k + ((4 * n : Nat) : Int)) + 1)), (mkT (((k + ((4 * n : Nat) : Int)) + 1) + 1))⟩, (decide ((Int.tmod ((((k + ((4 * n : Nat) : Int)) + 1) + 1) + 1) 3) = 0))⟩ : TSent)) (k := n) (j := 3) hs Q2 Q0 Q0 Q0 hg3 ⟨_, by rfl, by rfl⟩ Q3 (by exact own_part_flat ⟨(Sl.Ok.elem (hs.okow (x := s3) (F := F1) Q1) hg3).top, (Sl.Ok.elem (hs.okow (x := s3) (F := F1) Q1) hg3).to, (by trivial)⟩) Q0 (by exact szf4)) ?_
  clear hs; rintro _ w ⟨s4, _, rfl, hv4, hl4, hg4, hs⟩
  refine WL.next ?_
  refine WC.region ?_
  refine Qm ?_
  refine WL.p Q0 (Yl.add Q0 Q0 Q7) ?_
  refine Qa ?_
  refine WL.nil ?_
  refine At.blocknormal ?_
  refine At.then_ ?_
  refine WC.region ?_
  refine Qm ?_
  refine WL.p Q0 (Yl.add Q0 Q0 Q7) ?_
  refine Qa ?_
  refine WL.nil ?_
  refine At.roundC (n + 1, s4, F1, p ++ [(⟨(mkT (k + ((4 * n : Nat) : Int))), ⟨(mkT ((k + ((4 * n : Nat) : Int)) + 1)), (mkT (((k + ((4 * n : Nat) : Int)) + 1) + 1))⟩, (decide ((Int.tmod ((((k + ((4 * n : Nat) : Int)) + 1) + 1) + 1) 3) = 0))⟩ : TSent)]) (hs.only Q2) ⟨by rfl, trivial⟩ ⟨by rfl, by exact congrArg (fun z => some (I z)) Q7, by exact congrArg some (hv4.trans (hv3.trans (hv2.trans hv1))).symm, trivial⟩ ?_ ?_
  ·
   show a.l.length - (n + 1) < a.l.length - n
   omega
  ·
   refine ⟨by omega, (hv4.trans (hv3.trans (hv2.trans hv1))).trans hJ2, by simp [hJ3], ?_, ?_⟩
   · rw [hl4, hl3, hl2, hl1]; simp only [List.set_set]; rw [hJ4]; exact step_set hJ3 Q7
   · rw [mkL_step hd0, hJ5, costL_take_const Q7]; rfl
 ·
  replace h1 := of_decide_eq_false h1
  refine WC.exit ?_
  refine At.thenexit ?_
  refine At.thenexit ?_
  refine At.blockexit ?_
  refine At.then_ ?_
  refine WC.seq ?_
  refine Qm ?_
  refine Qa ?_
  refine WL.next ?_
  refine WC.ret ?_
  refine fin1' rfl Q0 ?_
  have hsl : s.l.length = a.l.length := by rw [hJ4]; simp [hJ3]; omega
  have hn2 : n = a.l.length := by omega
  subst hn2
  rw [costL_const]
  refine RetM.cast (congrArg I Q7) ?_
  exact RetM.of hs Q1 (Sl.v_enc hJ2) (by rw [hJ4, List.drop_length, List.append_nil, hJ5, List.take_length])

theorem c_laws_markNet (a : PNet) (k : Int) (w : World) (F : List Nat) (hF : Own.own w a F) (hn : F.Nodup)  (hk0 : 0 ≤ k) (hk : k + ((costoNet a.lg : Nat) : Int) ≤ 100000000) : Calls Tryz.prog 19 [.agg #[Sl.v a.servers, Sl.v a.cache.entries, Sl.v a.log, I a.now], I k].toArray w (RetM w a F (I (k + ((costoNet a.lg : Nat) : Int))) (fun a' => a'.lg = mkoNet k a.lg)) := by
 have hk2 := hk
 simp only [costoNet, costoCache, PToken.lg, PNode.lg, PBuilder.lg, PSheet.lg, PPolicy.lg, PServer.lg, PCache.lg, PNet.lg, PPage.lg] at hk2
 refine enterN 18 Tryz.func19 rfl rfl rfl ?_
 have hs := Sat.markStart hF hn
 obtain ⟨G0, G1, G2, hfl, hs⟩ := PNet.split hs
 refine WC.seq ?_
 refine WL.r Q0 (Yr.box hs Q0 Q0) ?_
 clear hs; rintro _ w ⟨b1, rfl, hb, hs⟩; clear hb
 refine Qa ?_
 refine WL.next ?_
 refine WC.seq ?_
 refine WL.p Q0 (Yl.fieldAddr fa39_0 Q0) ?_
 refine WL.p Q0 (Yl.loadB sca33 Q0 hs Q1 Q0) ?_
 refine Qm ?_
 refine WL.callm (a := a.servers) (F := G0) hs Q2 Q0 (Yc.func Q0 fn79) (c_laws_markServerS a.servers _ _ G0 (own_of hs Q1) (nodup_of hs Q1) Q11 Q11) ?_
 clear hs; intro a2 F2 w he2 hq2 hs
 refine Qa ?_
 refine WL.next ?_
 refine WC.seq ?_
 refine WL.p Q0 (Yl.fieldAddr fa39_1 Q0) ?_
 refine WL.p Q0 (Yl.loadAB agg36 Q0 hs Q1 Q0 Q0) ?_
 refine Qm ?_
 refine WL.callm (a := a.cache) (F := G1) hs Q2 Q0 (Yc.func Q0 fn80) (c_laws_markCache a.cache _ _ G1 (own_of hs Q1) (nodup_of hs Q1) Q11 Q11) ?_
 clear hs; intro a3 F3 w he3 hq3 hs
 refine Qa ?_
 refine WL.next ?_
 refine WC.seq ?_
 refine WL.p Q0 (Yl.fieldAddr fa39_2 Q0) ?_
 refine WL.p Q0 (Yl.loadB sca37 Q0 hs Q1 Q0) ?_
 refine Qm ?_
 refine WL.callm (a := a.log) (F := G2) hs Q2 Q0 (Yc.func Q0 fn81) (c_laws_markSentS a.log _ _ G2 (own_of hs Q1) (nodup_of hs Q1) Q11 Q11) ?_
 clear hs; intro a4 F4 w he4 hq4 hs
 refine Qa ?_
 refine WL.next ?_
 refine WC.seq ?_
 refine Qm ?_
 refine Qa ?_
 refine WL.next ?_
 refine WC.ret ?_
 refine fin1' rfl Q0 ?_
 refine RetM.cast (congrArg I (by first | rfl | (simp only [costoNet, costoCache, PToken.lg, PNode.lg, PBuilder.lg, PSheet.lg, PPolicy.lg, PServer.lg, PCache.lg, PNet.lg, PPage.lg]; omega))) ?_
 exact RetM.of (a' := ⟨a2, a3, a4, a.now⟩) (PNet.join ⟨a2, a3, a4, a.now⟩ (hs.only (D := [ow a2 F2, ow a3 F3, ow a4 F4]) Q2) (Flat.any hfl.1)) List.mem_cons_self (by show [Sl.v a2, Sl.v a3.entries, Sl.v a4, I a.now] = [Sl.v a.servers, Sl.v a.cache.entries, Sl.v a.log, I a.now]; rw [show Sl.v a2 = Sl.v a.servers from Sl.enc_v he2, show Sl.v a3.entries = Sl.v a.cache.entries from List.head_eq_of_cons_eq he3, show Sl.v a4 = Sl.v a.log from Sl.enc_v he4]) (by simp only [PNet.lg, mkoNet]; rw [show (a2.l.map PServer.lg) = _ from hq2, show a3.lg = _ from hq3, show a4.l = _ from hq4])

theorem c_laws_heldFileS (a : (Sl TFile)) (k : Int) (v : List TFile) (w : World) (h_a : Ph.ok w a) (hk0 : 0 ≤ k) (hk : k + ((costL (fun _ => 7) (v) : Nat) : Int) ≤ 100000000) (hm : a.l = mkL mkFile (fun _ => 7) k v) : Calls Tryz.prog 152 [Sl.v a, I k].toArray w (RetP w (I (k + ((costL (fun _ => 7) (v) : Nat) : Int)))) := by
 have hw := h_a.lt
 have hc : a.l.length = v.length := by rw [hm, mkL_length]
 have hk2 := hk
 rw [costL_const] at hk2
 refine enterN 87 Tryz.func152 rfl rfl rfl ?_
 have hs := Sat.start w
 refine WC.seq ?_
 refine Qa ?_
 refine WL.next ?_
 refine WC.seq' ?_
 refine WC.seq ?_
 refine Qa ?_
 refine WL.next ?_
 refine WC.block ?_
 refine WC.loopC (ι := Nat) (fun n => a.l.length - n) (fun n => [(5, I (n : Int)), (1, I (k + ((7 * n : Nat) : Int)))]) (fun _ => []) (fun n => n ≤ a.l.length) [(0, _)] 0 (hs) ⟨by rfl, trivial⟩ ⟨by rfl, by exact congrArg (fun z => some (I z)) Q7, trivial⟩ ?_ ?_
 ·
  exact Nat.zero_le _
 clear hs; rintro n w hJ1 hs
 simp only [List.nil_append] at hs
 refine WC.seq' ?_
 refine WC.seq ?_
 refine Qm ?_
 refine Qm ?_
 refine WL.p Q0 (Yl.len_sl slu183 Q0) ?_
 refine WL.p Q0 (Yl.lss Q0 Q0) ?_
 refine WL.next ?_
 refine WC.condS Q0 (fun h1 => ?_) (fun h1 => ?_)
 ·
  replace h1 := of_decide_eq_true h1
  obtain ⟨y, hy⟩ := exists_get (l := v) (k := n) Q7
  have hd : a.l[n]? = some (mkFile (k + ((7 * n : Nat) : Int)) y) := by rw [hm, mkL_get hy, costL_take_const Q7]
  refine WC.skipn ?_
  refine WC.seq' ?_
  refine WC.block ?_
  refine WC.seq' ?_
  refine WC.quietn mixed Q6 hs ?_
  refine WQ.p Q0 (fun w hs => Yl.move Q0) ?_
  refine WQ.p Q0 (fun w hs => Yl.move Q0) ?_
  refine WQ.p Q0 (fun w hs => Yl.indexAddr slt183 Q0 Q0 (Ph.old h_a hs) Q0 (hd)) ?_
  refine WQ.p Q0 (fun w hs => Yl.fieldAddr fa187_0 Q0) ?_
  refine WQ.p Q0 (fun w hs => Yl.loadC sca9 Q0 (Sl.Ok.at_ (Ph.old h_a hs) (by assumption)).2 Q0) ?_
  refine WQ.p Q0 (fun w hs => Yl.move Q0) ?_
  refine WQ.callp Q0 (fun w => Yc.func Q0 fn128) (fun w hs => (c_laws_markText _ _ Q7)) (fun _ _ hs hb => hs.ext hb) ?_
  refine WQ.p Q0 (fun w hs => Yl.nes Q0 Q0) ?_
  refine WQ.next ?_
  clear hs; intro w hs
  refine WC.condS Q0 (fun h2 => ?_) (fun h2 => ?_)
  ·
   replace h2 := not_eq_true h2
   replace h2 := of_decide_eq_false h2
   refine WC.seq ?_
   refine Qa ?_
   refine WL.next ?_
   refine WC.ret ?_
   refine At.thenret ?_
   refine At.blockret ?_
   refine At.thenret ?_
   refine At.thenret ?_
   refine At.blockret ?_
   refine At.thenret ?_
   refine fin1' rfl Q0 ?_
   refine RetP.mk hs ?_
   first
    | exact absurd rfl h2
    | (exfalso; omega)
    | (rw [costL_const]; exact congrArg I Q7)
  ·
   replace h2 := not_eq_false h2
   replace h2 := of_decide_eq_true h2
   refine WC.skipn ?_
   refine WC.seq ?_
   refine Qm ?_
   refine WL.p Q0 (Yl.add Q0 Q0 Q7) ?_
   refine Qa ?_
   refine WL.next ?_
   refine WC.seq' ?_
   refine WC.seq ?_
   refine Qm ?_
   refine Qm ?_
   refine WL.p Q0 (Yl.indexAddr slt183 Q0 Q0 (Ph.old h_a hs) Q0 (hd)) ?_
   refine WL.p Q0 (Yl.fieldAddr fa187_1 Q0) ?_
   refine WL.p Q0 (Yl.fieldAddr2 fa41_0 Q0) ?_
   refine WL.p Q0 (Yl.loadC sca3 Q0 (Sl.Ok.at_ (Ph.old h_a hs) (by assumption)).2 Q0) ?_
   refine Qm ?_
   refine WL.p Q0 (Yl.nei Q0 Q0) ?_
   refine WL.next ?_
   refine WC.condS Q0 (fun h3 => ?_) (fun h3 => ?_)
   ·
    replace h3 := not_eq_true h3
    replace h3 := of_decide_eq_false h3
    refine WC.seq ?_
    refine Qa ?_
    refine WL.next ?_
    refine WC.ret ?_
    refine At.thenret ?_
    refine At.blockret ?_
    refine At.thenret ?_
    refine At.thenret ?_
    refine At.blockret ?_
    refine At.thenret ?_
    refine fin1' rfl Q0 ?_
    refine RetP.mk hs ?_
    first
     | exact absurd rfl h3
     | (exfalso; omega)
     | (rw [costL_const]; exact congrArg I Q7)
   ·
    replace h3 := not_eq_false h3
    replace h3 := of_decide_eq_true h3
    refine WC.skipn ?_
    refine WC.seq ?_
    refine Qm ?_
    refine WL.p Q0 (Yl.add Q0 Q0 Q7) ?_
    refine Qa ?_
    refine WL.next ?_
    refine WC.seq' ?_
    refine WC.seq ?_
    refine Qm ?_
    refine Qm ?_
    refine WL.p Q0 (Yl.indexAddr slt183 Q0 Q0 (Ph.old h_a hs) Q0 (hd)) ?_
    refine WL.p Q0 (Yl.fieldAddr fa187_1 Q0) ?_
    refine WL.p Q0 (Yl.fieldAddr2 fa41_1 Q0) ?_
    refine WL.p Q0 (Yl.loadC sca3 Q0 (Sl.Ok.at_ (Ph.old h_a hs) (by assumption)).2 Q0) ?_
    refine Qm ?_
    refine WL.p Q0 (Yl.nei Q0 Q0) ?_
    refine WL.next ?_
    refine WC.condS Q0 (fun h4 => ?_) (fun h4 => ?_)
    ·
     replace h4 := not_eq_true h4
     replace h4 := of_decide_eq_false h4
     refine WC.seq ?_
     refine Qa ?_
     refine WL.next ?_
     refine WC.ret ?_
     refine At.thenret ?_
     refine At.blockret ?_
     refine At.thenret ?_
     refine At.thenret ?_
     refine At.blockret ?_
     refine At.thenret ?_
     refine fin1' rfl Q0 ?_
     refine RetP.mk hs ?_
     first
      | exact absurd rfl h4
      | (exfalso; omega)
      | (rw [costL_const]; exact congrArg I Q7)
    ·
     replace h4 := not_eq_false h4
     replace h4 := of_decide_eq_true h4
     refine WC.skipn ?_
     refine WC.seq ?_
     refine Qm ?_
     refine WL.p Q0 (Yl.add Q0 Q0 Q7) ?_
     refine Qa ?_
     refine WL.next ?_
     refine WC.seq' ?_
     refine WC.quietn mixed Q6 hs ?_
     refine WQ.p Q0 (fun w hs => Yl.move Q0) ?_
     refine WQ.p Q0 (fun w hs => Yl.move Q0) ?_
     refine WQ.p Q0 (fun w hs => Yl.indexAddr slt183 Q0 Q0 (Ph.old h_a hs) Q0 (hd)) ?_
     refine WQ.p Q0 (fun w hs => Yl.fieldAddr fa187_1 Q0) ?_
     refine WQ.p Q0 (fun w hs => Yl.fieldAddr2 fa41_2 Q0) ?_
     refine WQ.p Q0 (fun w hs => Yl.loadC sca9 Q0 (Sl.Ok.at_ (Ph.old h_a hs) (by assumption)).2 Q0) ?_
     refine WQ.p Q0 (fun w hs => Yl.move Q0) ?_
     refine WQ.callp Q0 (fun w => Yc.func Q0 fn128) (fun w hs => (c_laws_markText _ _ Q7)) (fun _ _ hs hb => hs.ext hb) ?_
     refine WQ.p Q0 (fun w hs => Yl.nes Q0 Q0) ?_
     refine WQ.next ?_
     clear hs; intro w hs
     refine WC.condS Q0 (fun h5 => ?_) (fun h5 => ?_)
     ·
      replace h5 := not_eq_true h5
      replace h5 := of_decide_eq_false h5
      refine WC.seq ?_
      refine Qa ?_
      refine WL.next ?_
      refine WC.ret ?_
      refine At.thenret ?_
      refine At.blockret ?_
      refine At.thenret ?_
      refine At.thenret ?_
      refine At.blockret ?_
      refine At.thenret ?_
      refine fin1' rfl Q0 ?_
      refine RetP.mk hs ?_
      first
       | exact absurd rfl h5
       | (exfalso; omega)
       | (rw [costL_const]; exact congrArg I Q7)
     ·
      replace h5 := not_eq_false h5
      replace h5 := of_decide_eq_true h5
      refine WC.skipn ?_
      refine WC.seq ?_
      refine Qm ?_
      refine WL.p Q0 (Yl.add Q0 Q0 Q7) ?_
      refine Qa ?_
      refine WL.next ?_
      refine WC.seq' ?_
      refine WC.seq ?_
      refine Qm ?_
      refine Qm ?_
      refine WL.p Q0 (Yl.indexAddr slt183 Q0 Q0 (Ph.old h_a hs) Q0 (hd)) ?_
      refine WL.p Q0 (Yl.fieldAddr fa187_1 Q0) ?_
      refine WL.p Q0 (Yl.fieldAddr2 fa41_3 Q0) ?_
      refine WL.p Q0 (Yl.loadC sca3 Q0 (Sl.Ok.at_ (Ph.old h_a hs) (by assumption)).2 Q0) ?_
      refine Qm ?_
      refine WL.p Q0 (Yl.nei Q0 Q0) ?_
      refine WL.next ?_
      refine WC.condS Q0 (fun h6 => ?_) (fun h6 => ?_)
      ·
       replace h6 := not_eq_true h6
       replace h6 := of_decide_eq_false h6
       refine WC.seq ?_
       refine Qa ?_
       refine WL.next ?_
       refine WC.ret ?_
       refine At.thenret ?_
       refine At.blockret ?_
       refine At.thenret ?_
       refine At.thenret ?_
       refine At.blockret ?_
       refine At.thenret ?_
       refine fin1' rfl Q0 ?_
       refine RetP.mk hs ?_
       first
        | exact absurd rfl h6
        | (exfalso; omega)
        | (rw [costL_const]; exact congrArg I Q7)
      ·
       replace h6 := not_eq_false h6
       replace h6 := of_decide_eq_true h6
       refine WC.skipn ?_
       refine WC.seq ?_
       refine Qm ?_
       refine WL.p Q0 (Yl.add Q0 Q0 Q7) ?_
       refine Qa ?_
       refine WL.next ?_
       refine WC.seq' ?_
       refine WC.seq ?_
       refine Qm ?_
       refine Qm ?_
       refine WL.p Q0 (Yl.indexAddr slt183 Q0 Q0 (Ph.old h_a hs) Q0 (hd)) ?_
       refine WL.p Q0 (Yl.fieldAddr fa187_1 Q0) ?_
       refine WL.p Q0 (Yl.fieldAddr2 fa41_4 Q0) ?_
       refine WL.p Q0 (Yl.loadC sca4 Q0 (Sl.Ok.at_ (Ph.old h_a hs) (by assumption)).2 Q0) ?_
       refine Qm ?_
       refine WL.p Q0 (Yl.remw Q0 Q0 (by decide)) ?_
       refine WL.p Q0 (Yl.eqi Q0 Q0) ?_
       refine WL.p Q0 (Yl.neb bool4 Q0 Q0) ?_
       refine WL.next ?_
       refine WC.condS Q0 (fun h7 => ?_) (fun h7 => ?_)
       ·
        replace h7 := not_eq_true h7
        replace h7 := beq_false h7
        refine WC.seq ?_
        refine Qa ?_
        refine WL.next ?_
        refine WC.ret ?_
        refine At.thenret ?_
        refine At.blockret ?_
        refine At.thenret ?_
        refine At.thenret ?_
        refine At.blockret ?_
        refine At.thenret ?_
        refine fin1' rfl Q0 ?_
        refine RetP.mk hs ?_
        first
         | exact absurd rfl h7
         | (exfalso; omega)
         | (rw [costL_const]; exact congrArg I Q7)
       ·
        replace h7 := not_eq_false h7
        replace h7 := beq_true h7
        refine WC.skipn ?_
        refine WC.seq ?_
        refine Qm ?_
        refine WL.p Q0 (Yl.add Q0 Q0 Q7) ?_
        refine Qa ?_
        refine WL.next ?_
        refine WC.seq' ?_
        refine WC.quietn mixed Q6 hs ?_
        refine WQ.p Q0 (fun w hs => Yl.move Q0) ?_
        refine WQ.p Q0 (fun w hs => Yl.move Q0) ?_
        refine WQ.p Q0 (fun w hs => Yl.indexAddr slt183 Q0 Q0 (Ph.old h_a hs) Q0 (hd)) ?_
        refine WQ.p Q0 (fun w hs => Yl.fieldAddr fa187_1 Q0) ?_
        refine WQ.p Q0 (fun w hs => Yl.fieldAddr2 fa41_5 Q0) ?_
        refine WQ.p Q0 (fun w hs => Yl.loadC sca9 Q0 (Sl.Ok.at_ (Ph.old h_a hs) (by assumption)).2 Q0) ?_
        refine WQ.p Q0 (fun w hs => Yl.move Q0) ?_
        refine WQ.callp Q0 (fun w => Yc.func Q0 fn128) (fun w hs => (c_laws_markText _ _ Q7)) (fun _ _ hs hb => hs.ext hb) ?_
        refine WQ.p Q0 (fun w hs => Yl.nes Q0 Q0) ?_
        refine WQ.next ?_
        clear hs; intro w hs
        refine WC.condS Q0 (fun h8 => ?_) (fun h8 => ?_)
        ·
         replace h8 := not_eq_true h8
         replace h8 := of_decide_eq_false h8
         refine WC.seq ?_
         refine Qa ?_
         refine WL.next ?_
         refine WC.ret ?_
         refine At.thenret ?_
         refine At.blockret ?_
         refine At.thenret ?_
         refine At.thenret ?_
         refine At.blockret ?_
         refine At.thenret ?_
         refine fin1' rfl Q0 ?_
         refine RetP.mk hs ?_
         first
          | exact absurd rfl h8
          | (exfalso; omega)
          | (rw [costL_const]; exact congrArg I Q7)
        ·
         replace h8 := not_eq_false h8
         replace h8 := of_decide_eq_true h8
         refine WC.skipn ?_
         refine WC.region ?_
         refine Qm ?_
         refine WL.p Q0 (Yl.add Q0 Q0 Q7) ?_
         refine Qa ?_
         refine WL.nil ?_
         refine At.blocknormal ?_
         refine At.then_ ?_
         refine WC.region ?_
         refine Qm ?_
         refine WL.p Q0 (Yl.add Q0 Q0 Q7) ?_
         refine Qa ?_
         refine WL.nil ?_
         refine At.roundC (n + 1) (hs.only Q2) ⟨by rfl, trivial⟩ ⟨by rfl, by exact congrArg (fun z => some (I z)) Q7, trivial⟩ ?_ ?_
         ·
          omega
         ·
          omega
 ·
  replace h1 := of_decide_eq_false h1
  refine WC.exit ?_
  refine At.thenexit ?_
  refine At.thenexit ?_
  refine At.blockexit ?_
  refine At.then_ ?_
  refine WC.seq ?_
  refine Qm ?_
  refine Qa ?_
  refine WL.next ?_
  refine WC.ret ?_
  refine fin1' rfl Q0 ?_
  refine RetP.mk hs ?_
  first
   | exact absurd rfl h1
   | (exfalso; omega)
   | (rw [costL_const]; exact congrArg I Q7)

theorem c_laws_heldServerS (a : (Sl PServer)) (k : Int) (v : List TServer) (w : World) (h_a : Ph.ok w a) (hk0 : 0 ≤ k) (hk : k + ((costL costServer (v) : Nat) : Int) ≤ 100000000) (hm : a.l.map PServer.lg = mkL mkServer costServer k v) : Calls Tryz.prog 82 [Sl.v a, I k].toArray w (RetP w (I (k + ((costL costServer (v) : Nat) : Int)))) := by
 have hw := h_a.lt
 have hc : a.l.length = v.length := by have := congrArg List.length hm; simpa [mkL_length] using this
 refine enterN 32 Tryz.func82 rfl rfl rfl ?_
 have hs := Sat.start w
 refine WC.seq ?_
 refine Qa ?_
 refine WL.next ?_
 refine WC.seq' ?_
 refine WC.seq ?_
 refine Qa ?_
 refine WL.next ?_
 refine WC.block ?_
 refine WC.loopC (ι := Nat) (fun n => a.l.length - n) (fun n => [(5, I (n : Int)), (1, I (k + ((costL costServer (v.take n) : Nat) : Int)))]) (fun _ => []) (fun n => n ≤ a.l.length) [(0, _)] 0 (hs) ⟨by rfl, trivial⟩ ⟨by rfl, by exact congrArg (fun z => some (I z)) (by simp [costL]), trivial⟩ ?_ ?_
 ·
  exact Nat.zero_le _
 clear hs; rintro n w hJ1 hs
 simp only [List.nil_append] at hs
 refine WC.seq' ?_
 refine WC.seq ?_
 refine Qm ?_
 refine Qm ?_
 refine WL.p Q0 (Yl.len_sl slu33 Q0) ?_
 refine WL.p Q0 (Yl.lss Q0 Q0) ?_
 refine WL.next ?_
 refine WC.condS Q0 (fun h1 => ?_) (fun h1 => ?_)
 ·
  replace h1 := of_decide_eq_true h1
  obtain ⟨d, hd⟩ := exists_get (l := a.l) (k := n) Q7
  obtain ⟨y, hy⟩ := exists_get (l := v) (k := n) Q7
  have hm0 : (a.l.map PServer.lg)[n]? = some d.lg := by rw [List.getElem?_map, hd]; rfl
  have hdy : d.lg = mkServer (k + ((costL costServer (v.take n) : Nat) : Int)) y := by rw [hm, mkL_get hy] at hm0; exact (Option.some.inj hm0).symm
  have hsp := costL_split (cost := costServer) hy
  simp only [costServer] at hsp
  refine WC.skipn ?_
  refine WC.seq' ?_
  refine WC.block ?_
  refine WC.seq' ?_
  refine WC.quietn mixed Q6 hs ?_
  refine WQ.p Q0 (fun w hs => Yl.move Q0) ?_
  refine WQ.p Q0 (fun w hs => Yl.move Q0) ?_
  refine WQ.p Q0 (fun w hs => Yl.indexAddr slt33 Q0 Q0 (Ph.old h_a hs) Q0 (hd)) ?_
  refine WQ.p Q0 (fun w hs => Yl.fieldAddr fa185_0 Q0) ?_
  refine WQ.p Q0 (fun w hs => Yl.loadC sca9 Q0 (Sl.Ok.at_ (Ph.old h_a hs) (by assumption)).2 Q0) ?_
  refine WQ.p Q0 (fun w hs => Yl.move Q0) ?_
  refine WQ.callp Q0 (fun w => Yc.func Q0 fn128) (fun w hs => (c_laws_markText _ _ Q7)) (fun _ _ hs hb => hs.ext hb) ?_
  refine WQ.p Q0 (fun w hs => Yl.nes Q0 Q0) ?_
  refine WQ.next ?_
  clear hs; intro w hs
  refine WC.condS Q0 (fun h2 => ?_) (fun h2 => ?_)
  ·
   replace h2 := not_eq_true h2
   replace h2 := of_decide_eq_false h2
   refine WC.seq ?_
   refine Qa ?_
   refine WL.next ?_
   refine WC.ret ?_
   refine At.thenret ?_
   refine At.blockret ?_
   refine At.thenret ?_
   refine At.thenret ?_
   refine At.blockret ?_
   refine At.thenret ?_
   refine fin1' rfl Q0 ?_
   refine RetP.mk hs ?_
   first
    | exact absurd rfl h2
    | exact absurd (congrArg TServer.host hdy) h2
    | (exfalso; omega)
    | exact congrArg I (by rw [List.take_of_length_le Q7])
  ·
   replace h2 := not_eq_false h2
   replace h2 := of_decide_eq_true h2
   refine WC.skipn ?_
   refine WC.seq ?_
   refine Qm ?_
   refine WL.p Q0 (Yl.add Q0 Q0 Q7) ?_
   refine Qa ?_
   refine WL.next ?_
   refine WC.seq ?_
   refine Qm ?_
   refine Qm ?_
   refine WL.p Q0 (Yl.indexAddr slt33 Q0 Q0 (Ph.old h_a hs) Q0 (hd)) ?_
   refine WL.p Q0 (Yl.fieldAddr fa185_1 Q0) ?_
   refine WL.p Q0 (Yl.loadC sca183 Q0 (Sl.Ok.at_ (Ph.old h_a hs) (by assumption)).2 Q0) ?_
   refine Qm ?_
   refine WL.callp hs Q0 (Yc.func Q0 fn152) (c_laws_heldFileS _ _ y.files _ (Ph.old (Sl.Ok.elem h_a hd).files hs) Q10 Q10 (by exact congrArg TServer.files hdy)) ?_
   clear hs; intro w hs
   refine Qa ?_
   refine WL.next ?_
   refine WC.seq ?_
   refine Qm ?_
   refine WL.p Q0 (Yl.lss Q0 Q0) ?_
   refine WL.next ?_
   refine WC.condS Q0 (fun h3 => ?_) (fun h3 => ?_)
   ·
    replace h3 := of_decide_eq_true h3
    refine WC.seq ?_
    refine Qa ?_
    refine WL.next ?_
    refine WC.ret ?_
    refine At.blockret ?_
    refine At.thenret ?_
    refine At.thenret ?_
    refine At.blockret ?_
    refine At.thenret ?_
    refine fin1' rfl Q0 ?_
    refine RetP.mk hs ?_
    first
     | exact absurd rfl h3
     | exact absurd (congrArg TServer.host hdy) h3
     | (exfalso; omega)
     | exact congrArg I (by rw [List.take_of_length_le Q7])
   ·
    replace h3 := of_decide_eq_false h3
    refine WC.skip ?_
    refine At.blocknormal ?_
    refine At.then_ ?_
    refine WC.region ?_
    refine Qm ?_
    refine WL.p Q0 (Yl.add Q0 Q0 Q7) ?_
    refine Qa ?_
    refine WL.nil ?_
    refine At.roundC (n + 1) (hs.only Q2) ⟨by rfl, trivial⟩ ⟨by rfl, by exact congrArg (fun z => some (I z)) (by rw [costL_step hy]; simp only [costServer]; omega), trivial⟩ ?_ ?_
    ·
     omega
    ·
     omega
 ·
  replace h1 := of_decide_eq_false h1
  refine WC.exit ?_
  refine At.thenexit ?_
  refine At.thenexit ?_
  refine At.blockexit ?_
  refine At.then_ ?_
  refine WC.seq ?_
  refine Qm ?_
  refine Qa ?_
  refine WL.next ?_
  refine WC.ret ?_
  refine fin1' rfl Q0 ?_
  refine RetP.mk hs ?_
  first
   | exact absurd rfl h1
   | exact absurd (congrArg TServer.host hdy) h1
   | (exfalso; omega)
   | exact congrArg I (by rw [List.take_of_length_le Q7])

theorem c_laws_heldEntryS (a : (Sl TEntry)) (k : Int) (v : List TEntry) (w : World) (h_a : Ph.ok w a) (hk0 : 0 ≤ k) (hk : k + ((costL (fun _ => 10) (v) : Nat) : Int) ≤ 100000000) (hm : a.l = mkL mkEntry (fun _ => 10) k v) : Calls Tryz.prog 153 [Sl.v a, I k].toArray w (RetP w (I (k + ((costL (fun _ => 10) (v) : Nat) : Int)))) := by
 have hw := h_a.lt
 have hc : a.l.length = v.length := by rw [hm, mkL_length]
 have hk2 := hk
 rw [costL_const] at hk2
 refine enterN 118 Tryz.func153 rfl rfl rfl ?_
 have hs := Sat.start w
 refine WC.seq ?_
 refine Qa ?_
 refine WL.next ?_
 refine WC.seq' ?_
 refine WC.seq ?_
 refine Qa ?_
 refine WL.next ?_
 refine WC.block ?_
 refine WC.loopC (ι := Nat) (fun n => a.l.length - n) (fun n => [(5, I (n : Int)), (1, I (k + ((10 * n : Nat) : Int)))]) (fun _ => []) (fun n => n ≤ a.l.length) [(0, _)] 0 (hs) ⟨by rfl, trivial⟩ ⟨by rfl, by exact congrArg (fun z => some (I z)) Q7, trivial⟩ ?_ ?_
 ·
  exact Nat.zero_le _
 clear hs; rintro n w hJ1 hs
 simp only [List.nil_append] at hs
 refine WC.seq' ?_
 refine WC.seq ?_
 refine Qm ?_
 refine Qm ?_
 refine WL.p Q0 (Yl.len_sl slu34 Q0) ?_
 refine WL.p Q0 (Yl.lss Q0 Q0) ?_
 refine WL.next ?_
 refine WC.condS Q0 (fun h1 => ?_) (fun h1 => ?_)
 ·
  replace h1 := of_decide_eq_true h1
  obtain ⟨y, hy⟩ := exists_get (l := v) (k := n) Q7
  have hd : a.l[n]? = some (mkEntry (k + ((10 * n : Nat) : Int)) y) := by rw [hm, mkL_get hy, costL_take_const Q7]
  refine WC.skipn ?_
  refine WC.seq' ?_
  refine WC.block ?_
  refine WC.seq' ?_
  refine WC.quietn mixed Q6 hs ?_
  refine WQ.p Q0 (fun w hs => Yl.move Q0) ?_
  refine WQ.p Q0 (fun w hs => Yl.move Q0) ?_
  refine WQ.p Q0 (fun w hs => Yl.indexAddr slt34 Q0 Q0 (Ph.old h_a hs) Q0 (hd)) ?_
  refine WQ.p Q0 (fun w hs => Yl.fieldAddr fa180_0 Q0) ?_
  refine WQ.p Q0 (fun w hs => Yl.loadC sca9 Q0 (Sl.Ok.at_ (Ph.old h_a hs) (by assumption)).2 Q0) ?_
  refine WQ.p Q0 (fun w hs => Yl.move Q0) ?_
  refine WQ.callp Q0 (fun w => Yc.func Q0 fn128) (fun w hs => (c_laws_markText _ _ Q7)) (fun _ _ hs hb => hs.ext hb) ?_
  refine WQ.p Q0 (fun w hs => Yl.nes Q0 Q0) ?_
  refine WQ.next ?_
  clear hs; intro w hs
  refine WC.condS Q0 (fun h2 => ?_) (fun h2 => ?_)
  ·
   replace h2 := not_eq_true h2
   replace h2 := of_decide_eq_false h2
   refine WC.seq ?_
   refine Qa ?_
   refine WL.next ?_
   refine WC.ret ?_
   refine At.thenret ?_
   refine At.blockret ?_
   refine At.thenret ?_
   refine At.thenret ?_
   refine At.blockret ?_
   refine At.thenret ?_
   refine fin1' rfl Q0 ?_
   refine RetP.mk hs ?_
   first
    | exact absurd rfl h2
    | (exfalso; omega)
    | (rw [costL_const]; exact congrArg I Q7)
  ·
   replace h2 := not_eq_false h2
   replace h2 := of_decide_eq_true h2
   refine WC.skipn ?_
   refine WC.seq ?_
   refine Qm ?_
   refine WL.p Q0 (Yl.add Q0 Q0 Q7) ?_
   refine Qa ?_
   refine WL.next ?_
   refine WC.seq' ?_
   refine WC.quietn mixed Q6 hs ?_
   refine WQ.p Q0 (fun w hs => Yl.move Q0) ?_
   refine WQ.p Q0 (fun w hs => Yl.move Q0) ?_
   refine WQ.p Q0 (fun w hs => Yl.indexAddr slt34 Q0 Q0 (Ph.old h_a hs) Q0 (hd)) ?_
   refine WQ.p Q0 (fun w hs => Yl.fieldAddr fa180_1 Q0) ?_
   refine WQ.p Q0 (fun w hs => Yl.fieldAddr2 fa45_0 Q0) ?_
   refine WQ.p Q0 (fun w hs => Yl.loadC sca9 Q0 (Sl.Ok.at_ (Ph.old h_a hs) (by assumption)).2 Q0) ?_
   refine WQ.p Q0 (fun w hs => Yl.move Q0) ?_
   refine WQ.callp Q0 (fun w => Yc.func Q0 fn128) (fun w hs => (c_laws_markText _ _ Q7)) (fun _ _ hs hb => hs.ext hb) ?_
   refine WQ.p Q0 (fun w hs => Yl.nes Q0 Q0) ?_
   refine WQ.next ?_
   clear hs; intro w hs
   refine WC.condS Q0 (fun h3 => ?_) (fun h3 => ?_)
   ·
    replace h3 := not_eq_true h3
    replace h3 := of_decide_eq_false h3
    refine WC.seq ?_
    refine Qa ?_
    refine WL.next ?_
    refine WC.ret ?_
    refine At.thenret ?_
    refine At.blockret ?_
    refine At.thenret ?_
    refine At.thenret ?_
    refine At.blockret ?_
    refine At.thenret ?_
    refine fin1' rfl Q0 ?_
    refine RetP.mk hs ?_
    first
     | exact absurd rfl h3
     | (exfalso; omega)
     | (rw [costL_const]; exact congrArg I Q7)
   ·
    replace h3 := not_eq_false h3
    replace h3 := of_decide_eq_true h3
    refine WC.skipn ?_
    refine WC.seq ?_
    refine Qm ?_
    refine WL.p Q0 (Yl.add Q0 Q0 Q7) ?_
    refine Qa ?_
    refine WL.next ?_
    refine WC.seq' ?_
    refine WC.quietn mixed Q6 hs ?_
    refine WQ.p Q0 (fun w hs => Yl.move Q0) ?_
    refine WQ.p Q0 (fun w hs => Yl.move Q0) ?_
    refine WQ.p Q0 (fun w hs => Yl.indexAddr slt34 Q0 Q0 (Ph.old h_a hs) Q0 (hd)) ?_
    refine WQ.p Q0 (fun w hs => Yl.fieldAddr fa180_1 Q0) ?_
    refine WQ.p Q0 (fun w hs => Yl.fieldAddr2 fa45_1 Q0) ?_
    refine WQ.p Q0 (fun w hs => Yl.loadC sca9 Q0 (Sl.Ok.at_ (Ph.old h_a hs) (by assumption)).2 Q0) ?_
    refine WQ.p Q0 (fun w hs => Yl.move Q0) ?_
    refine WQ.callp Q0 (fun w => Yc.func Q0 fn128) (fun w hs => (c_laws_markText _ _ Q7)) (fun _ _ hs hb => hs.ext hb) ?_
    refine WQ.p Q0 (fun w hs => Yl.nes Q0 Q0) ?_
    refine WQ.next ?_
    clear hs; intro w hs
    refine WC.condS Q0 (fun h4 => ?_) (fun h4 => ?_)
    ·
     replace h4 := not_eq_true h4
     replace h4 := of_decide_eq_false h4
     refine WC.seq ?_
     refine Qa ?_
     refine WL.next ?_
     refine WC.ret ?_
     refine At.thenret ?_
     refine At.blockret ?_
     refine At.thenret ?_
     refine At.thenret ?_
     refine At.blockret ?_
     refine At.thenret ?_
     refine fin1' rfl Q0 ?_
     refine RetP.mk hs ?_
     first
      | exact absurd rfl h4
      | (exfalso; omega)
      | (rw [costL_const]; exact congrArg I Q7)
    ·
     replace h4 := not_eq_false h4
     replace h4 := of_decide_eq_true h4
     refine WC.skipn ?_
     refine WC.seq ?_
     refine Qm ?_
     refine WL.p Q0 (Yl.add Q0 Q0 Q7) ?_
     refine Qa ?_
     refine WL.next ?_
     refine WC.seq' ?_
     refine WC.seq ?_
     refine Qm ?_
     refine Qm ?_
     refine WL.p Q0 (Yl.indexAddr slt34 Q0 Q0 (Ph.old h_a hs) Q0 (hd)) ?_
     refine WL.p Q0 (Yl.fieldAddr fa180_2 Q0) ?_
     refine WL.p Q0 (Yl.fieldAddr2 fa41_0 Q0) ?_
     refine WL.p Q0 (Yl.loadC sca3 Q0 (Sl.Ok.at_ (Ph.old h_a hs) (by assumption)).2 Q0) ?_
     refine Qm ?_
     refine WL.p Q0 (Yl.nei Q0 Q0) ?_
     refine WL.next ?_
     refine WC.condS Q0 (fun h5 => ?_) (fun h5 => ?_)
     ·
      replace h5 := not_eq_true h5
      replace h5 := of_decide_eq_false h5
      refine WC.seq ?_
      refine Qa ?_
      refine WL.next ?_
      refine WC.ret ?_
      refine At.thenret ?_
      refine At.blockret ?_
      refine At.thenret ?_
      refine At.thenret ?_
      refine At.blockret ?_
      refine At.thenret ?_
      refine fin1' rfl Q0 ?_
      refine RetP.mk hs ?_
      first
       | exact absurd rfl h5
       | (exfalso; omega)
       | (rw [costL_const]; exact congrArg I Q7)
     ·
      replace h5 := not_eq_false h5
      replace h5 := of_decide_eq_true h5
      refine WC.skipn ?_
      refine WC.seq ?_
      refine Qm ?_
      refine WL.p Q0 (Yl.add Q0 Q0 Q7) ?_
      refine Qa ?_
      refine WL.next ?_
      refine WC.seq' ?_
      refine WC.seq ?_
      refine Qm ?_
      refine Qm ?_
      refine WL.p Q0 (Yl.indexAddr slt34 Q0 Q0 (Ph.old h_a hs) Q0 (hd)) ?_
      refine WL.p Q0 (Yl.fieldAddr fa180_2 Q0) ?_
      refine WL.p Q0 (Yl.fieldAddr2 fa41_1 Q0) ?_
      refine WL.p Q0 (Yl.loadC sca3 Q0 (Sl.Ok.at_ (Ph.old h_a hs) (by assumption)).2 Q0) ?_
      refine Qm ?_
      refine WL.p Q0 (Yl.nei Q0 Q0) ?_
      refine WL.next ?_
      refine WC.condS Q0 (fun h6 => ?_) (fun h6 => ?_)
      ·
       replace h6 := not_eq_true h6
       replace h6 := of_decide_eq_false h6
       refine WC.seq ?_
       refine Qa ?_
       refine WL.next ?_
       refine WC.ret ?_
       refine At.thenret ?_
       refine At.blockret ?_
       refine At.thenret ?_
       refine At.thenret ?_
       refine At.blockret ?_
       refine At.thenret ?_
       refine fin1' rfl Q0 ?_
       refine RetP.mk hs ?_
       first
        | exact absurd rfl h6
        | (exfalso; omega)
        | (rw [costL_const]; exact congrArg I Q7)
      ·
       replace h6 := not_eq_false h6
       replace h6 := of_decide_eq_true h6
       refine WC.skipn ?_
       refine WC.seq ?_
       refine Qm ?_
       refine WL.p Q0 (Yl.add Q0 Q0 Q7) ?_
       refine Qa ?_
       refine WL.next ?_
       refine WC.seq' ?_
       refine WC.quietn mixed Q6 hs ?_
       refine WQ.p Q0 (fun w hs => Yl.move Q0) ?_
       refine WQ.p Q0 (fun w hs => Yl.move Q0) ?_
       refine WQ.p Q0 (fun w hs => Yl.indexAddr slt34 Q0 Q0 (Ph.old h_a hs) Q0 (hd)) ?_
       refine WQ.p Q0 (fun w hs => Yl.fieldAddr fa180_2 Q0) ?_
       refine WQ.p Q0 (fun w hs => Yl.fieldAddr2 fa41_2 Q0) ?_
       refine WQ.p Q0 (fun w hs => Yl.loadC sca9 Q0 (Sl.Ok.at_ (Ph.old h_a hs) (by assumption)).2 Q0) ?_
       refine WQ.p Q0 (fun w hs => Yl.move Q0) ?_
       refine WQ.callp Q0 (fun w => Yc.func Q0 fn128) (fun w hs => (c_laws_markText _ _ Q7)) (fun _ _ hs hb => hs.ext hb) ?_
       refine WQ.p Q0 (fun w hs => Yl.nes Q0 Q0) ?_
       refine WQ.next ?_
       clear hs; intro w hs
       refine WC.condS Q0 (fun h7 => ?_) (fun h7 => ?_)
       ·
        replace h7 := not_eq_true h7
        replace h7 := of_decide_eq_false h7
        refine WC.seq ?_
        refine Qa ?_
        refine WL.next ?_
        refine WC.ret ?_
        refine At.thenret ?_
        refine At.blockret ?_
        refine At.thenret ?_
        refine At.thenret ?_
        refine At.blockret ?_
        refine At.thenret ?_
        refine fin1' rfl Q0 ?_
        refine RetP.mk hs ?_
        first
         | exact absurd rfl h7
         | (exfalso; omega)
         | (rw [costL_const]; exact congrArg I Q7)
       ·
        replace h7 := not_eq_false h7
        replace h7 := of_decide_eq_true h7
        refine WC.skipn ?_
        refine WC.seq ?_
        refine Qm ?_
        refine WL.p Q0 (Yl.add Q0 Q0 Q7) ?_
        refine Qa ?_
        refine WL.next ?_
        refine WC.seq' ?_
        refine WC.seq ?_
        refine Qm ?_
        refine Qm ?_
        refine WL.p Q0 (Yl.indexAddr slt34 Q0 Q0 (Ph.old h_a hs) Q0 (hd)) ?_
        refine WL.p Q0 (Yl.fieldAddr fa180_2 Q0) ?_
        refine WL.p Q0 (Yl.fieldAddr2 fa41_3 Q0) ?_
        refine WL.p Q0 (Yl.loadC sca3 Q0 (Sl.Ok.at_ (Ph.old h_a hs) (by assumption)).2 Q0) ?_
        refine Qm ?_
        refine WL.p Q0 (Yl.nei Q0 Q0) ?_
        refine WL.next ?_
        refine WC.condS Q0 (fun h8 => ?_) (fun h8 => ?_)
        ·
         replace h8 := not_eq_true h8
         replace h8 := of_decide_eq_false h8
         refine WC.seq ?_
         refine Qa ?_
         refine WL.next ?_
         refine WC.ret ?_
         refine At.thenret ?_
         refine At.blockret ?_
         refine At.thenret ?_
         refine At.thenret ?_
         refine At.blockret ?_
         refine At.thenret ?_
         refine fin1' rfl Q0 ?_
         refine RetP.mk hs ?_
         first
          | exact absurd rfl h8
          | (exfalso; omega)
          | (rw [costL_const]; exact congrArg I Q7)
        ·
         replace h8 := not_eq_false h8
         replace h8 := of_decide_eq_true h8
         refine WC.skipn ?_
         refine WC.seq ?_
         refine Qm ?_
         refine WL.p Q0 (Yl.add Q0 Q0 Q7) ?_
         refine Qa ?_
         refine WL.next ?_
         refine WC.seq' ?_
         refine WC.seq ?_
         refine Qm ?_
         refine Qm ?_
         refine WL.p Q0 (Yl.indexAddr slt34 Q0 Q0 (Ph.old h_a hs) Q0 (hd)) ?_
         refine WL.p Q0 (Yl.fieldAddr fa180_2 Q0) ?_
         refine WL.p Q0 (Yl.fieldAddr2 fa41_4 Q0) ?_
         refine WL.p Q0 (Yl.loadC sca4 Q0 (Sl.Ok.at_ (Ph.old h_a hs) (by assumption)).2 Q0) ?_
         refine Qm ?_
         refine WL.p Q0 (Yl.remw Q0 Q0 (by decide)) ?_
         refine WL.p Q0 (Yl.eqi Q0 Q0) ?_
         refine WL.p Q0 (Yl.neb bool4 Q0 Q0) ?_
         refine WL.next ?_
         refine WC.condS Q0 (fun h9 => ?_) (fun h9 => ?_)
         ·
          replace h9 := not_eq_true h9
          replace h9 := beq_false h9
          refine WC.seq ?_
          refine Qa ?_
          refine WL.next ?_
          refine WC.ret ?_
          refine At.thenret ?_
          refine At.blockret ?_
          refine At.thenret ?_
          refine At.thenret ?_
          refine At.blockret ?_
          refine At.thenret ?_
          refine fin1' rfl Q0 ?_
          refine RetP.mk hs ?_
          first
           | exact absurd rfl h9
           | (exfalso; omega)
           | (rw [costL_const]; exact congrArg I Q7)
         ·
          replace h9 := not_eq_false h9
          replace h9 := beq_true h9
          refine WC.skipn ?_
          refine WC.seq ?_
          refine Qm ?_
          refine WL.p Q0 (Yl.add Q0 Q0 Q7) ?_
          refine Qa ?_
          refine WL.next ?_
          refine WC.seq' ?_
          refine WC.quietn mixed Q6 hs ?_
          refine WQ.p Q0 (fun w hs => Yl.move Q0) ?_
          refine WQ.p Q0 (fun w hs => Yl.move Q0) ?_
          refine WQ.p Q0 (fun w hs => Yl.indexAddr slt34 Q0 Q0 (Ph.old h_a hs) Q0 (hd)) ?_
          refine WQ.p Q0 (fun w hs => Yl.fieldAddr fa180_2 Q0) ?_
          refine WQ.p Q0 (fun w hs => Yl.fieldAddr2 fa41_5 Q0) ?_
          refine WQ.p Q0 (fun w hs => Yl.loadC sca9 Q0 (Sl.Ok.at_ (Ph.old h_a hs) (by assumption)).2 Q0) ?_
          refine WQ.p Q0 (fun w hs => Yl.move Q0) ?_
          refine WQ.callp Q0 (fun w => Yc.func Q0 fn128) (fun w hs => (c_laws_markText _ _ Q7)) (fun _ _ hs hb => hs.ext hb) ?_
          refine WQ.p Q0 (fun w hs => Yl.nes Q0 Q0) ?_
          refine WQ.next ?_
          clear hs; intro w hs
          refine WC.condS Q0 (fun h10 => ?_) (fun h10 => ?_)
          ·
           replace h10 := not_eq_true h10
           replace h10 := of_decide_eq_false h10
           refine WC.seq ?_
           refine Qa ?_
           refine WL.next ?_
           refine WC.ret ?_
           refine At.thenret ?_
           refine At.blockret ?_
           refine At.thenret ?_
           refine At.thenret ?_
           refine At.blockret ?_
           refine At.thenret ?_
           refine fin1' rfl Q0 ?_
           refine RetP.mk hs ?_
           first
            | exact absurd rfl h10
            | (exfalso; omega)
            | (rw [costL_const]; exact congrArg I Q7)
          ·
           replace h10 := not_eq_false h10
           replace h10 := of_decide_eq_true h10
           refine WC.skipn ?_
           refine WC.seq ?_
           refine Qm ?_
           refine WL.p Q0 (Yl.add Q0 Q0 Q7) ?_
           refine Qa ?_
           refine WL.next ?_
           refine WC.seq' ?_
           refine WC.seq ?_
           refine Qm ?_
           refine Qm ?_
           refine WL.p Q0 (Yl.indexAddr slt34 Q0 Q0 (Ph.old h_a hs) Q0 (hd)) ?_
           refine WL.p Q0 (Yl.fieldAddr fa180_3 Q0) ?_
           refine WL.p Q0 (Yl.loadC sca3 Q0 (Sl.Ok.at_ (Ph.old h_a hs) (by assumption)).2 Q0) ?_
           refine Qm ?_
           refine WL.p Q0 (Yl.nei Q0 Q0) ?_
           refine WL.next ?_
           refine WC.condS Q0 (fun h11 => ?_) (fun h11 => ?_)
           ·
            replace h11 := not_eq_true h11
            replace h11 := of_decide_eq_false h11
            refine WC.seq ?_
            refine Qa ?_
            refine WL.next ?_
            refine WC.ret ?_
            refine At.thenret ?_
            refine At.blockret ?_
            refine At.thenret ?_
            refine At.thenret ?_
            refine At.blockret ?_
            refine At.thenret ?_
            refine fin1' rfl Q0 ?_
            refine RetP.mk hs ?_
            first
             | exact absurd rfl h11
             | (exfalso; omega)
             | (rw [costL_const]; exact congrArg I Q7)
           ·
            replace h11 := not_eq_false h11
            replace h11 := of_decide_eq_true h11
            refine WC.skipn ?_
            refine WC.region ?_
            refine Qm ?_
            refine WL.p Q0 (Yl.add Q0 Q0 Q7) ?_
            refine Qa ?_
            refine WL.nil ?_
            refine At.blocknormal ?_
            refine At.then_ ?_
            refine WC.region ?_
            refine Qm ?_
            refine WL.p Q0 (Yl.add Q0 Q0 Q7) ?_
            refine Qa ?_
            refine WL.nil ?_
            refine At.roundC (n + 1) (hs.only Q2) ⟨by rfl, trivial⟩ ⟨by rfl, by exact congrArg (fun z => some (I z)) Q7, trivial⟩ ?_ ?_
            ·
             omega
            ·
             omega
 ·
  replace h1 := of_decide_eq_false h1
  refine WC.exit ?_
  refine At.thenexit ?_
  refine At.thenexit ?_
  refine At.blockexit ?_
  refine At.then_ ?_
  refine WC.seq ?_
  refine Qm ?_
  refine Qa ?_
  refine WL.next ?_
  refine WC.ret ?_
  refine fin1' rfl Q0 ?_
  refine RetP.mk hs ?_
  first
   | exact absurd rfl h1
   | (exfalso; omega)
   | (rw [costL_const]; exact congrArg I Q7)

theorem c_laws_heldCache (a : PCache) (k : Int) (v : TCache) (w : World) (h_a : Ph.ok w a) (hk0 : 0 ≤ k) (hk : k + ((costoCache v : Nat) : Int) ≤ 100000000) (hm : a.lg = mkoCache k v) : Calls Tryz.prog 83 [.agg #[Sl.v a.entries], I k].toArray w (RetP w (I (k + ((costoCache v : Nat) : Int)))) := by
 have hk2 := hk
 simp only [costoCache, costoCache] at hk2
 refine enterN 12 Tryz.func83 rfl rfl rfl ?_
 have hs := Sat.start w
 refine WC.seq ?_
 refine WL.r Q0 (Yr.box hs Q0 Q0) ?_
 clear hs; rintro _ w ⟨b1, rfl, hb, hs⟩; clear hb
 refine Qa ?_
 refine WL.next ?_
 refine WC.seq ?_
 refine WL.p Q0 (Yl.fieldAddr fa36_0 Q0) ?_
 refine WL.p Q0 (Yl.loadB sca34 Q0 hs Q1 Q0) ?_
 refine Qm ?_
 refine WL.callp hs Q0 (Yc.func Q0 fn153) (c_laws_heldEntryS _ _ v.entries _ (Ph.old h_a.entries hs) Q12 Q12 (by exact congrArg TCache.entries hm)) ?_
 clear hs; intro w hs
 refine Qa ?_
 refine WL.next ?_
 refine WC.seq' ?_
 refine WC.seq ?_
 refine Qm ?_
 refine WL.p Q0 (Yl.lss Q0 Q0) ?_
 refine WL.next ?_
 refine WC.condS Q0 (fun h1 => ?_) (fun h1 => ?_)
 ·
  replace h1 := of_decide_eq_true h1
  refine WC.seq ?_
  refine Qa ?_
  refine WL.next ?_
  refine WC.ret ?_
  refine At.thenret ?_
  refine fin1' rfl Q0 ?_
  refine RetP.mk hs ?_
  first
   | (exfalso; omega)
   | rfl
   | exact congrArg I (by simp only [costoCache, costoCache]; omega)
 ·
  replace h1 := of_decide_eq_false h1
  refine WC.skipn ?_
  refine WC.seq ?_
  refine Qm ?_
  refine Qa ?_
  refine WL.next ?_
  refine WC.ret ?_
  refine fin1' rfl Q0 ?_
  refine RetP.mk hs ?_
  first
   | (exfalso; omega)
   | rfl
   | exact congrArg I (by simp only [costoCache, costoCache]; omega)

theorem c_laws_heldSentS (a : (Sl TSent)) (k : Int) (v : List TSent) (w : World) (h_a : Ph.ok w a) (hk0 : 0 ≤ k) (hk : k + ((costL (fun _ => 4) (v) : Nat) : Int) ≤ 100000000) (hm : a.l = mkL mkSent (fun _ => 4) k v) : Calls Tryz.prog 84 [Sl.v a, I k].toArray w (RetP w (I (k + ((costL (fun _ => 4) (v) : Nat) : Int)))) := by
 have hw := h_a.lt
 have hc : a.l.length = v.length := by rw [hm, mkL_length]
 have hk2 := hk
 rw [costL_const] at hk2
 refine enterN 56 Tryz.func84 rfl rfl rfl ?_
 have hs := Sat.start w
 refine WC.seq ?_
 refine Qa ?_
 refine WL.next ?_
 refine WC.seq' ?_
 refine WC.seq ?_
 refine Qa ?_
 refine WL.next ?_
 refine WC.block ?_
 refine WC.loopC (ι := Nat) (fun n => a.l.length - n) (fun n => [(5, I (n : Int)), (1, I (k + ((4 * n : Nat) : Int)))]) (fun _ => []) (fun n => n ≤ a.l.length) [(0, _)] 0 (hs) ⟨by rfl, trivial⟩ ⟨by rfl, by exact congrArg (fun z => some (I z)) Q7, trivial⟩ ?_ ?_
 ·
  exact Nat.zero_le _
 clear hs; rintro n w hJ1 hs
 simp only [List.nil_append] at hs
 refine WC.seq' ?_
 refine WC.seq ?_
 refine Qm ?_
 refine Qm ?_
 refine WL.p Q0 (Yl.len_sl slu37 Q0) ?_
 refine WL.p Q0 (Yl.lss Q0 Q0) ?_
 refine WL.next ?_
 refine WC.condS Q0 (fun h1 => ?_) (fun h1 => ?_)
 ·
  replace h1 := of_decide_eq_true h1
  obtain ⟨y, hy⟩ := exists_get (l := v) (k := n) Q7
  have hd : a.l[n]? = some (mkSent (k + ((4 * n : Nat) : Int)) y) := by rw [hm, mkL_get hy, costL_take_const Q7]
  refine WC.skipn ?_
  refine WC.seq' ?_
  refine WC.block ?_
  refine WC.seq' ?_
  refine WC.quietn mixed Q6 hs ?_
  refine WQ.p Q0 (fun w hs => Yl.move Q0) ?_
  refine WQ.p Q0 (fun w hs => Yl.move Q0) ?_
  refine WQ.p Q0 (fun w hs => Yl.indexAddr slt37 Q0 Q0 (Ph.old h_a hs) Q0 (hd)) ?_
  refine WQ.p Q0 (fun w hs => Yl.fieldAddr fa123_0 Q0) ?_
  refine WQ.p Q0 (fun w hs => Yl.loadC sca9 Q0 (Sl.Ok.at_ (Ph.old h_a hs) (by assumption)).2 Q0) ?_
  refine WQ.p Q0 (fun w hs => Yl.move Q0) ?_
  refine WQ.callp Q0 (fun w => Yc.func Q0 fn128) (fun w hs => (c_laws_markText _ _ Q7)) (fun _ _ hs hb => hs.ext hb) ?_
  refine WQ.p Q0 (fun w hs => Yl.nes Q0 Q0) ?_
  refine WQ.next ?_
  clear hs; intro w hs
  refine WC.condS Q0 (fun h2 => ?_) (fun h2 => ?_)
  ·
   replace h2 := not_eq_true h2
   replace h2 := of_decide_eq_false h2
   refine WC.seq ?_
   refine Qa ?_
   refine WL.next ?_
   refine WC.ret ?_
   refine At.thenret ?_
   refine At.blockret ?_
   refine At.thenret ?_
   refine At.thenret ?_
   refine At.blockret ?_
   refine At.thenret ?_
   refine fin1' rfl Q0 ?_
   refine RetP.mk hs ?_
   first
    | exact absurd rfl h2
    | (exfalso; omega)
    | (rw [costL_const]; exact congrArg I Q7)
  ·
   replace h2 := not_eq_false h2
   replace h2 := of_decide_eq_true h2
   refine WC.skipn ?_
   refine WC.seq ?_
   refine Qm ?_
   refine WL.p Q0 (Yl.add Q0 Q0 Q7) ?_
   refine Qa ?_
   refine WL.next ?_
   refine WC.seq' ?_
   refine WC.quietn mixed Q6 hs ?_
   refine WQ.p Q0 (fun w hs => Yl.move Q0) ?_
   refine WQ.p Q0 (fun w hs => Yl.move Q0) ?_
   refine WQ.p Q0 (fun w hs => Yl.indexAddr slt37 Q0 Q0 (Ph.old h_a hs) Q0 (hd)) ?_
   refine WQ.p Q0 (fun w hs => Yl.fieldAddr fa123_1 Q0) ?_
   refine WQ.p Q0 (fun w hs => Yl.fieldAddr2 fa45_0 Q0) ?_
   refine WQ.p Q0 (fun w hs => Yl.loadC sca9 Q0 (Sl.Ok.at_ (Ph.old h_a hs) (by assumption)).2 Q0) ?_
   refine WQ.p Q0 (fun w hs => Yl.move Q0) ?_
   refine WQ.callp Q0 (fun w => Yc.func Q0 fn128) (fun w hs => (c_laws_markText _ _ Q7)) (fun _ _ hs hb => hs.ext hb) ?_
   refine WQ.p Q0 (fun w hs => Yl.nes Q0 Q0) ?_
   refine WQ.next ?_
   clear hs; intro w hs
   refine WC.condS Q0 (fun h3 => ?_) (fun h3 => ?_)
   ·
    replace h3 := not_eq_true h3
    replace h3 := of_decide_eq_false h3
    refine WC.seq ?_
    refine Qa ?_
    refine WL.next ?_
    refine WC.ret ?_
    refine At.thenret ?_
    refine At.blockret ?_
    refine At.thenret ?_
    refine At.thenret ?_
    refine At.blockret ?_
    refine At.thenret ?_
    refine fin1' rfl Q0 ?_
    refine RetP.mk hs ?_
    first
     | exact absurd rfl h3
     | (exfalso; omega)
     | (rw [costL_const]; exact congrArg I Q7)
   ·
    replace h3 := not_eq_false h3
    replace h3 := of_decide_eq_true h3
    refine WC.skipn ?_
    refine WC.seq ?_
    refine Qm ?_
    refine WL.p Q0 (Yl.add Q0 Q0 Q7) ?_
    refine Qa ?_
    refine WL.next ?_
    refine WC.seq' ?_
    refine WC.quietn mixed Q6 hs ?_
    refine WQ.p Q0 (fun w hs => Yl.move Q0) ?_
    refine WQ.p Q0 (fun w hs => Yl.move Q0) ?_
    refine WQ.p Q0 (fun w hs => Yl.indexAddr slt37 Q0 Q0 (Ph.old h_a hs) Q0 (hd)) ?_
    refine WQ.p Q0 (fun w hs => Yl.fieldAddr fa123_1 Q0) ?_
    refine WQ.p Q0 (fun w hs => Yl.fieldAddr2 fa45_1 Q0) ?_
    refine WQ.p Q0 (fun w hs => Yl.loadC sca9 Q0 (Sl.Ok.at_ (Ph.old h_a hs) (by assumption)).2 Q0) ?_
    refine WQ.p Q0 (fun w hs => Yl.move Q0) ?_
    refine WQ.callp Q0 (fun w => Yc.func Q0 fn128) (fun w hs => (c_laws_markText _ _ Q7)) (fun _ _ hs hb => hs.ext hb) ?_
    refine WQ.p Q0 (fun w hs => Yl.nes Q0 Q0) ?_
    refine WQ.next ?_
    clear hs; intro w hs
    refine WC.condS Q0 (fun h4 => ?_) (fun h4 => ?_)
    ·
     replace h4 := not_eq_true h4
     replace h4 := of_decide_eq_false h4
     refine WC.seq ?_
     refine Qa ?_
     refine WL.next ?_
     refine WC.ret ?_
     refine At.thenret ?_
     refine At.blockret ?_
     refine At.thenret ?_
     refine At.thenret ?_
     refine At.blockret ?_
     refine At.thenret ?_
     refine fin1' rfl Q0 ?_
     refine RetP.mk hs ?_
     first
      | exact absurd rfl h4
      | (exfalso; omega)
      | (rw [costL_const]; exact congrArg I Q7)
    ·
     replace h4 := not_eq_false h4
     replace h4 := of_decide_eq_true h4
     refine WC.skipn ?_
     refine WC.seq ?_
     refine Qm ?_
     refine WL.p Q0 (Yl.add Q0 Q0 Q7) ?_
     refine Qa ?_
     refine WL.next ?_
     refine WC.seq' ?_
     refine WC.seq ?_
     refine Qm ?_
     refine Qm ?_
     refine WL.p Q0 (Yl.indexAddr slt37 Q0 Q0 (Ph.old h_a hs) Q0 (hd)) ?_
     refine WL.p Q0 (Yl.fieldAddr fa123_2 Q0) ?_
     refine WL.p Q0 (Yl.loadC sca4 Q0 (Sl.Ok.at_ (Ph.old h_a hs) (by assumption)).2 Q0) ?_
     refine Qm ?_
     refine WL.p Q0 (Yl.remw Q0 Q0 (by decide)) ?_
     refine WL.p Q0 (Yl.eqi Q0 Q0) ?_
     refine WL.p Q0 (Yl.neb bool4 Q0 Q0) ?_
     refine WL.next ?_
     refine WC.condS Q0 (fun h5 => ?_) (fun h5 => ?_)
     ·
      replace h5 := not_eq_true h5
      replace h5 := beq_false h5
      refine WC.seq ?_
      refine Qa ?_
      refine WL.next ?_
      refine WC.ret ?_
      refine At.thenret ?_
      refine At.blockret ?_
      refine At.thenret ?_
      refine At.thenret ?_
      refine At.blockret ?_
      refine At.thenret ?_
      refine fin1' rfl Q0 ?_
      refine RetP.mk hs ?_
      first
       | exact absurd rfl h5
       | (exfalso; omega)
       | (rw [costL_const]; exact congrArg I Q7)
     ·
      replace h5 := not_eq_false h5
      replace h5 := beq_true h5
      refine WC.skipn ?_
      refine WC.region ?_
      refine Qm ?_
      refine WL.p Q0 (Yl.add Q0 Q0 Q7) ?_
      refine Qa ?_
      refine WL.nil ?_
      refine At.blocknormal ?_
      refine At.then_ ?_
      refine WC.region ?_
      refine Qm ?_
      refine WL.p Q0 (Yl.add Q0 Q0 Q7) ?_
      refine Qa ?_
      refine WL.nil ?_
      refine At.roundC (n + 1) (hs.only Q2) ⟨by rfl, trivial⟩ ⟨by rfl, by exact congrArg (fun z => some (I z)) Q7, trivial⟩ ?_ ?_
      ·
       omega
      ·
       omega
 ·
  replace h1 := of_decide_eq_false h1
  refine WC.exit ?_
  refine At.thenexit ?_
  refine At.thenexit ?_
  refine At.blockexit ?_
  refine At.then_ ?_
  refine WC.seq ?_
  refine Qm ?_
  refine Qa ?_
  refine WL.next ?_
  refine WC.ret ?_
  refine fin1' rfl Q0 ?_
  refine RetP.mk hs ?_
  first
   | exact absurd rfl h1
   | (exfalso; omega)
   | (rw [costL_const]; exact congrArg I Q7)

theorem c_laws_heldNet (a : PNet) (k : Int) (v : TNet) (w : World) (h_a : Ph.ok w a) (hk0 : 0 ≤ k) (hk : k + ((costoNet v : Nat) : Int) ≤ 100000000) (hm : a.lg = mkoNet k v) : Calls Tryz.prog 20 [.agg #[Sl.v a.servers, Sl.v a.cache.entries, Sl.v a.log, I a.now], I k].toArray w (RetP w (I (k + ((costoNet v : Nat) : Int)))) := by
 have hk2 := hk
 simp only [costoNet, costoCache] at hk2
 refine enterN 24 Tryz.func20 rfl rfl rfl ?_
 have hs := Sat.start w
 refine WC.seq ?_
 refine WL.r Q0 (Yr.box hs Q0 Q0) ?_
 clear hs; rintro _ w ⟨b1, rfl, hb, hs⟩; clear hb
 refine Qa ?_
 refine WL.next ?_
 refine WC.seq ?_
 refine WL.p Q0 (Yl.fieldAddr fa39_0 Q0) ?_
 refine WL.p Q0 (Yl.loadB sca33 Q0 hs Q1 Q0) ?_
 refine Qm ?_
 refine WL.callp hs Q0 (Yc.func Q0 fn82) (c_laws_heldServerS _ _ v.servers _ (Ph.old h_a.servers hs) Q12 Q12 (by exact congrArg TNet.servers hm)) ?_
 clear hs; intro w hs
 refine Qa ?_
 refine WL.next ?_
 refine WC.seq' ?_
 refine WC.seq ?_
 refine Qm ?_
 refine WL.p Q0 (Yl.lss Q0 Q0) ?_
 refine WL.next ?_
 refine WC.condS Q0 (fun h1 => ?_) (fun h1 => ?_)
 ·
  replace h1 := of_decide_eq_true h1
  refine WC.seq ?_
  refine Qa ?_
  refine WL.next ?_
  refine WC.ret ?_
  refine At.thenret ?_
  refine fin1' rfl Q0 ?_
  refine RetP.mk hs ?_
  first
   | (exfalso; omega)
   | rfl
   | exact congrArg I (by simp only [costoNet, costoCache]; omega)
 ·
  replace h1 := of_decide_eq_false h1
  refine WC.skipn ?_
  refine WC.seq ?_
  refine WL.p Q0 (Yl.fieldAddr fa39_1 Q0) ?_
  refine WL.p Q0 (Yl.loadAB agg36 Q0 hs Q1 Q0 Q0) ?_
  refine Qm ?_
  refine WL.callp hs Q0 (Yc.func Q0 fn83) (c_laws_heldCache _ _ v.cache _ ⟨(Ph.old h_a.cache.entries hs)⟩ Q12 Q12 (by exact congrArg TNet.cache hm)) ?_
  clear hs; intro w hs
  refine Qa ?_
  refine WL.next ?_
  refine WC.seq' ?_
  refine WC.seq ?_
  refine Qm ?_
  refine WL.p Q0 (Yl.lss Q0 Q0) ?_
  refine WL.next ?_
  refine WC.condS Q0 (fun h2 => ?_) (fun h2 => ?_)
  ·
   replace h2 := of_decide_eq_true h2
   refine WC.seq ?_
   refine Qa ?_
   refine WL.next ?_
   refine WC.ret ?_
   refine At.thenret ?_
   refine fin1' rfl Q0 ?_
   refine RetP.mk hs ?_
   first
    | (exfalso; omega)
    | rfl
    | exact congrArg I (by simp only [costoNet, costoCache]; omega)
  ·
   replace h2 := of_decide_eq_false h2
   refine WC.skipn ?_
   refine WC.seq ?_
   refine WL.p Q0 (Yl.fieldAddr fa39_2 Q0) ?_
   refine WL.p Q0 (Yl.loadB sca37 Q0 hs Q1 Q0) ?_
   refine Qm ?_
   refine WL.callp hs Q0 (Yc.func Q0 fn84) (c_laws_heldSentS _ _ v.log _ (Ph.old h_a.log hs) Q12 Q12 (by exact congrArg TNet.log hm)) ?_
   clear hs; intro w hs
   refine Qa ?_
   refine WL.next ?_
   refine WC.seq' ?_
   refine WC.seq ?_
   refine Qm ?_
   refine WL.p Q0 (Yl.lss Q0 Q0) ?_
   refine WL.next ?_
   refine WC.condS Q0 (fun h3 => ?_) (fun h3 => ?_)
   ·
    replace h3 := of_decide_eq_true h3
    refine WC.seq ?_
    refine Qa ?_
    refine WL.next ?_
    refine WC.ret ?_
    refine At.thenret ?_
    refine fin1' rfl Q0 ?_
    refine RetP.mk hs ?_
    first
     | (exfalso; omega)
     | rfl
     | exact congrArg I (by simp only [costoNet, costoCache]; omega)
   ·
    replace h3 := of_decide_eq_false h3
    refine WC.skipn ?_
    refine WC.seq ?_
    refine Qm ?_
    refine Qa ?_
    refine WL.next ?_
    refine WC.ret ?_
    refine fin1' rfl Q0 ?_
    refine RetP.mk hs ?_
    first
     | (exfalso; omega)
     | rfl
     | exact congrArg I (by simp only [costoNet, costoCache]; omega)

theorem c_spec_l12Copy (l : (Sl PServer)) (w : World) (h_l : Ph.ok w l) (hb : lsz TServer.size (l.l.map PServer.lg) ≤ 1048576) : Calls Tryz.prog 134 [Sl.v l].toArray w (Ret w (fun v w' => ∃ x : Sl PServer, v = x.v ∧ x.l.map PServer.lg = l.l.map PServer.lg ∧ Fresh w x w')) := by
 have hw := h_l.lt
 have hbl : l.l.length ≤ 1048576 := by simp only [lsz, List.length_map] at hb; omega
 refine enterN 29 Tryz.func134 rfl rfl rfl ?_
 have hs := Sat.start w
 refine WC.seq ?_
 refine Qa ?_
 refine WL.next ?_
 refine WC.seq ?_
 refine WL.r Q0 (Yr.buildSlice hs sll33 Q0 Q0 Q0 Q4 Q0) ?_
 clear hs; rintro _ w ⟨b1, rfl, hb, hs⟩; clear hb
 refine Qa ?_
 refine WL.next ?_
 refine WC.seq' ?_
 refine WC.seq ?_
 refine Qa ?_
 refine WL.next ?_
 refine WC.block ?_
 replace hs := Sat.boxow (l := ([] : List PServer)) hs rfl rfl (by simp) rfl
 refine WC.loopC (ι := Nat × Sl PServer × List Nat) (fun ⟨k, q, F⟩ => l.l.length - k) (fun ⟨k, q, F⟩ => [(4, I (k : Int)), (3, q.v)]) (fun ⟨k, q, F⟩ => [ow q F]) (fun ⟨k, q, F⟩ => k ≤ l.l.length ∧ q.l.map PServer.lg = (l.l.take k).map PServer.lg) [(0, _), (2, _), (5, _)] (0, ⟨[], some ⟨b1, 0, none⟩, 0⟩, [b1]) (hs.sel (D := [ow (⟨[], some ⟨b1, 0, none⟩, 0⟩ : Sl PServer) [b1]]) Q2) ⟨by rfl, by rfl, by rfl, trivial⟩ ⟨by rfl, by rfl, trivial⟩ ?_ ?_
 ·
  exact ⟨Nat.zero_le _, rfl⟩
 clear hs; rintro ⟨k, q, F⟩ w ⟨hJ1, hJ2⟩ hs
 simp only [List.cons_append, List.nil_append] at hs
 refine WC.seq' ?_
 refine WC.seq ?_
 refine Qm ?_
 refine Qm ?_
 refine WL.p Q0 (Yl.len_sl slu33 Q0) ?_
 refine WL.p Q0 (Yl.lss Q0 Q0) ?_
 refine WL.next ?_
 refine WC.condS Q0 (fun h1 => ?_) (fun h1 => ?_)
 ·
  replace h1 := of_decide_eq_true h1
  obtain ⟨d, hd⟩ := exists_get (l := l.l) (k := k) Q7
  have hql : q.l.length = k := by have := congrArg List.length hJ2; simp at this; omega
  have hdl := lsum_le (f := fun d : PServer => d.lg.size) (List.mem_of_getElem? hd)
  have hdf : d.files.l.length ≤ 1048576 := by rw [lsz_map] at hb; simp only [lsz, TServer.size] at hb hdl; omega
  refine WC.skipn ?_
  refine WC.seq' ?_
  refine WC.block ?_
  refine WC.anyX (K := [ow q F]) mixed hs Q2 ?_
  clear hs; intro w hs
  refine WA.p (i := 0) Q0 Q6 Q6 Q6 Q0 (hs.only Q2) (fun w hs => Yl.move Q0) ?_
  refine WA.p (i := 1) Q0 Q6 Q6 Q6 Q0 (hs.only Q2) (fun w hs => Yl.move Q0) ?_
  refine WA.p (i := 2) Q0 Q6 Q6 Q6 Q0 (hs.only Q2) (fun w hs => Yl.move Q0) ?_
  refine WA.p (i := 3) Q0 Q6 Q6 Q6 Q0 (hs.only Q2) (fun w hs => Yl.indexAddr slt33 Q0 Q0 (Ph.old h_l hs) Q0 (hd)) ?_
  refine WA.p (i := 4) Q0 Q6 Q6 Q6 Q0 (hs.only Q2) (fun w hs => Yl.fieldAddr fa185_0 Q0) ?_
  refine WA.p (i := 5) Q0 Q6 Q6 Q6 Q0 (hs.only Q2) (fun w hs => Yl.loadC sca9 Q0 (Sl.Ok.at_ (Ph.old h_l hs) (by assumption)).2 Q0) ?_
  refine WA.p (i := 7) Q0 Q6 Q6 Q6 Q0 (hs.only Q2) (fun w hs => Yl.move Q0) ?_
  refine WA.p (i := 8) Q0 Q6 Q6 Q6 Q0 (hs.only Q2) (fun w hs => Yl.move Q0) ?_
  refine WA.p (i := 9) Q0 Q6 Q6 Q6 Q0 (hs.only Q2) (fun w hs => Yl.indexAddr slt33 Q0 Q0 (Ph.old h_l hs) Q0 (hd)) ?_
  refine WA.p (i := 10) Q0 Q6 Q6 Q6 Q0 (hs.only Q2) (fun w hs => Yl.fieldAddr fa185_1 Q0) ?_
  refine WA.p (i := 11) Q0 Q6 Q6 Q6 Q0 (hs.only Q2) (fun w hs => Yl.loadC sca183 Q0 (Sl.Ok.at_ (Ph.old h_l hs) (by assumption)).2 Q0) ?_
  refine WA.r (i := 6) Q6 Q0 Q0 (Yr.buildSlice hs sll183 Q0 Q0 Q0 Q4 Q0) (by rintro _ w ⟨b2, rfl, hb, hs⟩; exact hs.only Q2) ?_
  clear hs; rintro _ w ⟨b2, rfl, hb, hs⟩; clear hb
  replace hs := (Sat.boxow (l := ([] : List TFile)) (hs.sel (D := [box b2 _ _]) Q2) rfl rfl (by simp [maxLen]) (ownL_mk_flat (by simp)))
  refine WA.r (i := 12) Q6 Q0 Q0 (Yr.appendS (s := (⟨[], some ⟨b2, 0, none⟩, _⟩ : Sl TFile)) (F := [b2]) (r := d.files) hs elt183 Q2 Q0 Q0 (Ph.old (Sl.Ok.elem h_l hd).files hs) (by first | (rw [hql]; unfold maxLen; omega) | (simp; unfold maxLen; omega)) (by first | (rw [hql]; omega) | (simp; omega))) (by rintro _ w ⟨s3, F3, rfl, hl3, hs⟩; exact hs.only Q2) ?_
  clear hs; rintro _ w ⟨s3, F3, rfl, hl3, hs⟩
  refine WA.p (i := 13) Q0 Q6 Q6 Q6 Q0 (hs.only Q2) (fun w hs => Yl.build bt185 Q0 Q4) ?_
  refine WA.r (i := 14) Q6 Q0 Q0 (Yr.buildSlice hs sll33 Q0 Q0 Q0 Q4 Q0) (by rintro _ w ⟨b4, rfl, hb, hs⟩; exact hs.only Q2) ?_
  clear hs; rintro _ w ⟨b4, rfl, hb, hs⟩; clear hb
  replace hs := PServer.join (⟨d.host, s3⟩ : PServer) (hs.sel (D := [ow s3 F3]) Q2) (by first | exact (Ph.old (Sl.Ok.elem h_l hd).host hs) | (refine Ph.old ?_ hs; assumption))
  try simp only [List.cons_append, List.nil_append] at hs
  refine WA.r (i := 15) Q6 Q0 Q0 (Yr.appendE (s := q) (F := F) (u := (⟨d.host, s3⟩ : PServer)) (G := F3) hs elt33 Q2 Q0 Q0 (hs.box_cells Q1) (by first | (rw [hql]; unfold maxLen; omega) | (simp; unfold maxLen; omega)) (by first | (rw [hql]; omega) | (simp; omega))) (by rintro _ w ⟨s5, F5, rfl, hl5, hs⟩; exact hs.only Q2) ?_
  clear hs; rintro _ w ⟨s5, F5, rfl, hl5, hs⟩
  refine WA.p (i := 16) Q0 Q6 Q6 Q6 Q0 (hs.only Q2) (fun w hs => Yl.assign Q0) ?_
  refine WA.done Q6 ?_
  refine At.blocknormal ?_
  refine At.then_ ?_
  refine WC.region ?_
  refine Qm ?_
  refine WL.p Q0 (Yl.add Q0 Q0 Q7) ?_
  refine Qa ?_
  refine WL.nil ?_
  refine At.roundC (k + 1, s5, F5) (hs.only Q2) ⟨by rfl, by rfl, by rfl, trivial⟩ ⟨by rfl, by rfl, trivial⟩ ?_ ?_
  ·
   show l.l.length - (k + 1) < l.l.length - k
   omega
  ·
   exact ⟨by omega, by rw [hl5, List.map_append, hJ2, List.take_add_one, hd]; simp [PServer.lg, *]⟩
 ·
  replace h1 := of_decide_eq_false h1
  refine WC.exit ?_
  refine At.thenexit ?_
  refine At.thenexit ?_
  refine At.blockexit ?_
  refine At.then_ ?_
  refine WC.seq ?_
  refine Qm ?_
  refine Qa ?_
  refine WL.next ?_
  refine WC.ret ?_
  refine fin1' rfl Q0 ?_
  refine Ret.mk hs ?_
  exact ⟨q, rfl, by rw [hJ2, show k = l.l.length from by omega, List.take_length], hs.fresh Q1⟩

end Go.Sw
