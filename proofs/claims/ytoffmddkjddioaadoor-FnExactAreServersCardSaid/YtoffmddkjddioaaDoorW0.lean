/- Walks: what each function of the program returns, for every input. Printed by gen.py. -/
import Derived.Test.YtoffmddkjddioaaDoorFx
set_option linter.all false
namespace Go.Sw
open Go Go.RowKit Go.Proofs

theorem c_laws_szResponse (a : TResponse) (left : Int) (w : World) (h_a : Ph.ok w a) (hl0 : 0 ≤ left) (hl1 : left ≤ 1048576) : Calls Tryd.prog 16 [.agg #[I a.status, I a.kind, S a.body, I a.age, Bo a.shares, S a.policy], I left].toArray w (RetP w (I (lessN left a.size))) := by
  have hb1 := h_a.body; have hb2 := h_a.policy; simp only [Ph.ok, WfS] at hb1 hb2
  refine enterN 20 Tryd.func16 rfl rfl rfl ?_
  have hs := Sat.start w
  refine WC.seq ?_
  refine WL.r (by rfl) (Yr.box hs (by rfl) (by rfl)) ?_
  clear hs; rintro _ w ⟨b1, rfl, hb, hs⟩; clear hb
  refine WL.p (by rfl) (Yl.assign (by rfl)) ?_
  refine WL.next ?_
  refine WC.seq ?_
  refine WL.p (by rfl) (Yl.move (by rfl)) ?_
  refine WL.p (by rfl) (Yl.fieldAddr fa29_2 (by rfl)) ?_
  refine WL.p (by rfl) (Yl.loadB sca9 (by rfl) hs (by repeat (first | exact List.mem_cons_self | apply List.mem_cons_of_mem)) (by rfl)) ?_
  refine WL.p (by rfl) (Yl.len_str str9 (by rfl)) ?_
  refine WL.p (by rfl) (Yl.sub_ (by rfl) (by rfl) (by omega)) ?_
  refine WL.p (by rfl) (Yl.assign (by rfl)) ?_
  refine WL.next ?_
  refine WC.seq' ?_
  refine WC.seq ?_
  refine WL.p (by rfl) (Yl.move (by rfl)) ?_
  refine WL.p (by rfl) (Yl.lss (by rfl) (by rfl)) ?_
  refine WL.next ?_
  refine WC.condS (by rfl) (fun h1 => ?_) (fun h1 => ?_)
  ·
    replace h1 := of_decide_eq_true h1
    refine WC.seq ?_
    refine WL.p (by rfl) (Yl.assign (by rfl)) ?_
    refine WL.next ?_
    refine WC.ret ?_
    refine At.thenret ?_
    refine fin1' rfl (by rfl) ?_
    refine RetP.mk hs ?_
    first
      | (rw [lessN_lt (left := left) (n := a.size) (by simp only [TResponse.size]; omega)]; done)
      | (rw [lessN_ge (left := left) (n := a.size) (by simp only [TResponse.size]; omega)]; try exact congrArg I (by simp only [TResponse.size] <;> omega))
  ·
    replace h1 := of_decide_eq_false h1
    refine WC.skipn ?_
    refine WC.seq ?_
    refine WL.p (by rfl) (Yl.move (by rfl)) ?_
    refine WL.p (by rfl) (Yl.fieldAddr fa29_5 (by rfl)) ?_
    refine WL.p (by rfl) (Yl.loadB sca9 (by rfl) hs (by repeat (first | exact List.mem_cons_self | apply List.mem_cons_of_mem)) (by rfl)) ?_
    refine WL.p (by rfl) (Yl.len_str str9 (by rfl)) ?_
    refine WL.p (by rfl) (Yl.sub_ (by rfl) (by rfl) (by omega)) ?_
    refine WL.p (by rfl) (Yl.assign (by rfl)) ?_
    refine WL.next ?_
    refine WC.seq' ?_
    refine WC.seq ?_
    refine WL.p (by rfl) (Yl.move (by rfl)) ?_
    refine WL.p (by rfl) (Yl.lss (by rfl) (by rfl)) ?_
    refine WL.next ?_
    refine WC.condS (by rfl) (fun h2 => ?_) (fun h2 => ?_)
    ·
      replace h2 := of_decide_eq_true h2
      refine WC.seq ?_
      refine WL.p (by rfl) (Yl.assign (by rfl)) ?_
      refine WL.next ?_
      refine WC.ret ?_
      refine At.thenret ?_
      refine fin1' rfl (by rfl) ?_
      refine RetP.mk hs ?_
      first
        | (rw [lessN_lt (left := left) (n := a.size) (by simp only [TResponse.size]; omega)]; done)
        | (rw [lessN_ge (left := left) (n := a.size) (by simp only [TResponse.size]; omega)]; try exact congrArg I (by simp only [TResponse.size] <;> omega))
    ·
      replace h2 := of_decide_eq_false h2
      refine WC.skipn ?_
      refine WC.seq ?_
      refine WL.p (by rfl) (Yl.move (by rfl)) ?_
      refine WL.p (by rfl) (Yl.assign (by rfl)) ?_
      refine WL.next ?_
      refine WC.ret ?_
      refine fin1' rfl (by rfl) ?_
      refine RetP.mk hs ?_
      first
        | (rw [lessN_lt (left := left) (n := a.size) (by simp only [TResponse.size]; omega)]; done)
        | (rw [lessN_ge (left := left) (n := a.size) (by simp only [TResponse.size]; omega)]; try exact congrArg I (by simp only [TResponse.size] <;> omega))

theorem c_laws_szFile (a : TFile) (left : Int) (w : World) (h_a : Ph.ok w a) (hl0 : 0 ≤ left) (hl1 : left ≤ 1048576) : Calls Tryd.prog 98 [.agg #[S a.path, I a.response.status, I a.response.kind, S a.response.body, I a.response.age, Bo a.response.shares, S a.response.policy], I left].toArray w (RetP w (I (lessN left a.size))) := by
  have hb0 : a.path.length ≤ 9223372036854775807 := h_a.path
  refine enterN 19 Tryd.func98 rfl rfl rfl ?_
  have hs := Sat.start w
  refine WC.seq ?_
  refine WL.r (by rfl) (Yr.box hs (by rfl) (by rfl)) ?_
  clear hs; rintro _ w ⟨b1, rfl, hb, hs⟩; clear hb
  refine WL.p (by rfl) (Yl.assign (by rfl)) ?_
  refine WL.next ?_
  refine WC.seq ?_
  refine WL.p (by rfl) (Yl.move (by rfl)) ?_
  refine WL.p (by rfl) (Yl.fieldAddr fa126_0 (by rfl)) ?_
  refine WL.p (by rfl) (Yl.loadB sca9 (by rfl) hs (by repeat (first | exact List.mem_cons_self | apply List.mem_cons_of_mem)) (by rfl)) ?_
  refine WL.p (by rfl) (Yl.len_str str9 (by rfl)) ?_
  refine WL.p (by rfl) (Yl.sub_ (by rfl) (by rfl) (by omega)) ?_
  refine WL.p (by rfl) (Yl.assign (by rfl)) ?_
  refine WL.next ?_
  refine WC.seq' ?_
  refine WC.seq ?_
  refine WL.p (by rfl) (Yl.move (by rfl)) ?_
  refine WL.p (by rfl) (Yl.lss (by rfl) (by rfl)) ?_
  refine WL.next ?_
  refine WC.condS (by rfl) (fun h1 => ?_) (fun h1 => ?_)
  ·
    replace h1 := of_decide_eq_true h1
    refine WC.seq ?_
    refine WL.p (by rfl) (Yl.assign (by rfl)) ?_
    refine WL.next ?_
    refine WC.ret ?_
    refine At.thenret ?_
    refine fin1' rfl (by rfl) ?_
    refine RetP.mk hs ?_
    first
      | (rw [lessN_lt (left := left) (n := a.size) (by simp only [TFile.size]; omega)]; done)
      | (rw [lessN_ge (left := left) (n := a.size) (by simp only [TFile.size]; omega)]; try exact congrArg I (by simp only [TFile.size] <;> omega))
  ·
    replace h1 := of_decide_eq_false h1
    refine WC.skipn ?_
    refine WC.seq ?_
    refine WL.p (by rfl) (Yl.fieldAddr fa126_1 (by rfl)) ?_
    refine WL.p (by rfl) (Yl.loadAB agg29 (by rfl) hs (by repeat (first | exact List.mem_cons_self | apply List.mem_cons_of_mem)) (by rfl) (by rfl)) ?_
    refine WL.p (by rfl) (Yl.move (by rfl)) ?_
    refine WL.callp hs (by rfl) (Yc.func (by rfl) fn16) (c_laws_szResponse _ _ _ ⟨(Ph.old h_a.response.status hs), (Ph.old h_a.response.kind hs), (Ph.old h_a.response.body hs), (Ph.old h_a.response.age hs), (Ph.old h_a.response.shares hs), (Ph.old h_a.response.policy hs)⟩ (by first | assumption | omega | (simp only [TFile.size]; omega)) (by first | assumption | omega | (simp only [TFile.size]; omega))) ?_
    clear hs; intro w hs
    refine WL.p (by rfl) (Yl.assign (by rfl)) ?_
    refine WL.next ?_
    refine WC.seq' ?_
    refine WC.seq ?_
    refine WL.p (by rfl) (Yl.move (by rfl)) ?_
    refine WL.p (by rfl) (Yl.lss (by rfl) (by rfl)) ?_
    refine WL.next ?_
    refine WC.condS (by rfl) (fun h2 => ?_) (fun h2 => ?_)
    ·
      replace h2 := lessN_neg (of_decide_eq_true h2)
      refine WC.seq ?_
      refine WL.p (by rfl) (Yl.assign (by rfl)) ?_
      refine WL.next ?_
      refine WC.ret ?_
      refine At.thenret ?_
      refine fin1' rfl (by rfl) ?_
      refine RetP.mk hs ?_
      first
        | (rw [lessN_lt (left := left) (n := a.size) (by simp only [TFile.size]; omega)]; done)
        | (rw [lessN_ge (left := left) (n := a.size) (by simp only [TFile.size]; omega)]; try exact congrArg I (by simp only [TFile.size] <;> omega))
    ·
      replace h2 := lessN_nn (by omega) (of_decide_eq_false h2)
      refine WC.skipn ?_
      refine WC.seq ?_
      refine WL.p (by rfl) (Yl.move (by rfl)) ?_
      refine WL.p (by rfl) (Yl.assign (by rfl)) ?_
      refine WL.next ?_
      refine WC.ret ?_
      refine fin1' rfl (by rfl) ?_
      refine RetP.mk hs ?_
      first
        | (rw [lessN_lt (left := left) (n := a.size) (by simp only [TFile.size]; omega)]; done)
        | (rw [lessN_ge (left := left) (n := a.size) (by simp only [TFile.size]; omega)]; try exact congrArg I (by simp only [TFile.size] <;> omega))

theorem c_laws_szFileS (a : (Sl TFile)) (left : Int) (w : World) (h_a : Ph.ok w a) (hl0 : 0 ≤ left) (hl1 : left ≤ 1048576) : Calls Tryd.prog 65 [Sl.v a, I left].toArray w (RetP w (I (lessN left (lsz TFile.size a.l)))) := by
  have hw := h_a.lt
  refine enterN 27 Tryd.func65 rfl rfl rfl ?_
  have hs := Sat.start w
  refine WC.seq ?_
  refine WL.p (by rfl) (Yl.assign (by rfl)) ?_
  refine WL.next ?_
  refine WC.seq ?_
  refine WL.p (by rfl) (Yl.move (by rfl)) ?_
  refine WL.p (by rfl) (Yl.move (by rfl)) ?_
  refine WL.p (by rfl) (Yl.len_sl slu42 (by rfl)) ?_
  refine WL.p (by rfl) (Yl.sub_ (by rfl) (by rfl) (by omega)) ?_
  refine WL.p (by rfl) (Yl.assign (by rfl)) ?_
  refine WL.next ?_
  refine WC.seq' ?_
  refine WC.seq ?_
  refine WL.p (by rfl) (Yl.move (by rfl)) ?_
  refine WL.p (by rfl) (Yl.lss (by rfl) (by rfl)) ?_
  refine WL.next ?_
  refine WC.condS (by rfl) (fun h1 => ?_) (fun h1 => ?_)
  ·
    replace h1 := of_decide_eq_true h1
    refine WC.seq ?_
    refine WL.p (by rfl) (Yl.assign (by rfl)) ?_
    refine WL.next ?_
    refine WC.ret ?_
    refine At.thenret ?_
    refine fin1' rfl (by rfl) ?_
    refine RetP.mk hs ?_
    rw [lessN_lt (by simp only [lsz]; omega)]
  ·
    replace h1 := of_decide_eq_false h1
    refine WC.skipn ?_
    refine WC.seq' ?_
    refine WC.seq ?_
    refine WL.p (by rfl) (Yl.assign (by rfl)) ?_
    refine WL.next ?_
    refine WC.block ?_
    refine WC.loopC (ι := Nat × Int) (fun ⟨k, l⟩ => a.l.length - k) (fun ⟨k, l⟩ => [(5, I (k : Int)), (1, I l)]) (fun _ => []) (fun ⟨k, l⟩ => 0 ≤ l ∧ l ≤ 1048576 ∧ lessN l (lsum TFile.size (a.l.drop k)) = lessN left (lsz TFile.size a.l)) [(0, _), (6, _), (7, _), (8, _), (9, _), (10, _), (11, _)] (0, left - (a.l.length : Int)) (hs) ⟨by rfl, by rfl, by rfl, by rfl, by rfl, by rfl, by rfl, trivial⟩ ⟨by rfl, by rfl, trivial⟩ ?_ ?_
    ·
      refine ⟨by omega, by omega, ?_⟩
      rw [List.drop_zero, lsz, lessN_sub (by omega)]
    clear hs; rintro ⟨k, l⟩ w ⟨hJ1, hJ2, hJ3⟩ hs
    simp only [List.nil_append] at hs
    refine WC.seq' ?_
    refine WC.seq ?_
    refine WL.p (by rfl) (Yl.move (by rfl)) ?_
    refine WL.p (by rfl) (Yl.move (by rfl)) ?_
    refine WL.p (by rfl) (Yl.len_sl slu42 (by rfl)) ?_
    refine WL.p (by rfl) (Yl.lss (by rfl) (by rfl)) ?_
    refine WL.next ?_
    refine WC.condS (by rfl) (fun h2 => ?_) (fun h2 => ?_)
    ·
      replace h2 := of_decide_eq_true h2
      obtain ⟨d, hd⟩ := exists_get (l := a.l) (k := k) (by omega)
      rw [drop_cons hd, lsum_cons] at hJ3
      refine WC.skipn ?_
      refine WC.seq' ?_
      refine WC.block ?_
      refine WC.seq ?_
      refine WL.p (by rfl) (Yl.move (by rfl)) ?_
      refine WL.p (by rfl) (Yl.move (by rfl)) ?_
      refine WL.p (by rfl) (Yl.indexAddr slt42 (by rfl) (by rfl) (Ph.old h_a hs) (by rfl) (hd)) ?_
      refine WL.p (by rfl) (Yl.loadA agg126 (by rfl) (Sl.Ok.at_ (Ph.old h_a hs) (by assumption)).2 (by rfl)) ?_
      refine WL.p (by rfl) (Yl.move (by rfl)) ?_
      refine WL.callp hs (by rfl) (Yc.func (by rfl) fn98) (c_laws_szFile _ _ _ (Ph.old (Sl.Ok.elem h_a hd) hs) (by first | assumption | omega | (simp only [lsz] at *; omega) | (simp only [lsz, strsz, TPolicy.size, TCache.size, TAddr.size, TRequest.size, TEntry.size, TResponse.size, TLine.size] at *; omega) | (simp only [lsz_map, TPage.size, TBuilder.size, TNode.size, TToken.size, TTokenizer.size, TServer.size, TFile.size, TNet.size, TCache.size, TSheet.size, strsz] at *; omega) | (simp only [lsz_map, TPage.size, TBuilder.size, TNode.size, TToken.size, TTokenizer.size, TServer.size, TFile.size, TNet.size, TCache.size, TSheet.size, strsz, lsz] at *; omega)) (by first | assumption | omega | (simp only [lsz] at *; omega) | (simp only [lsz, strsz, TPolicy.size, TCache.size, TAddr.size, TRequest.size, TEntry.size, TResponse.size, TLine.size] at *; omega) | (simp only [lsz_map, TPage.size, TBuilder.size, TNode.size, TToken.size, TTokenizer.size, TServer.size, TFile.size, TNet.size, TCache.size, TSheet.size, strsz] at *; omega) | (simp only [lsz_map, TPage.size, TBuilder.size, TNode.size, TToken.size, TTokenizer.size, TServer.size, TFile.size, TNet.size, TCache.size, TSheet.size, strsz, lsz] at *; omega))) ?_
      clear hs; intro w hs
      refine WL.p (by rfl) (Yl.assign (by rfl)) ?_
      refine WL.next ?_
      refine WC.seq ?_
      refine WL.p (by rfl) (Yl.move (by rfl)) ?_
      refine WL.p (by rfl) (Yl.lss (by rfl) (by rfl)) ?_
      refine WL.next ?_
      refine WC.condS (by rfl) (fun h3 => ?_) (fun h3 => ?_)
      ·
        replace h3 := lessN_neg (of_decide_eq_true h3)
        refine WC.seq ?_
        refine WL.p (by rfl) (Yl.assign (by rfl)) ?_
        refine WL.next ?_
        refine WC.ret ?_
        refine At.blockret ?_
        refine At.thenret ?_
        refine At.thenret ?_
        refine At.blockret ?_
        refine At.thenret ?_
        refine fin1' rfl (by rfl) ?_
        refine RetP.mk hs ?_
        rw [← hJ3, lessN_add_lt h3]
      ·
        replace h3 := lessN_nn (by omega) (of_decide_eq_false h3)
        refine WC.skip ?_
        refine At.blocknormal ?_
        refine At.then_ ?_
        refine WC.region ?_
        refine WL.p (by rfl) (Yl.move (by rfl)) ?_
        refine WL.p (by rfl) (Yl.add (by rfl) (by rfl) (by omega)) ?_
        refine WL.p (by rfl) (Yl.assign (by rfl)) ?_
        refine WL.nil ?_
        refine At.roundC (k + 1, lessN l (TFile.size d)) (hs.only (by repeat (first | exact Sel.nil | (apply Sel.cons; (repeat (first | exact Ext.here | apply Ext.there)))))) ⟨by rfl, by rfl, by rfl, by rfl, by rfl, by rfl, by rfl, trivial⟩ ⟨by rfl, by rfl, trivial⟩ ?_ ?_
        ·
          show a.l.length - (k + 1) < a.l.length - k
          omega
        ·
          simp only [h3.2]
          refine ⟨by omega, by omega, ?_⟩
          rw [lessN_sub (by omega), hJ3]
    ·
      replace h2 := of_decide_eq_false h2
      rw [drop_out (l := a.l) (by omega), lsum_nil] at hJ3
      refine WC.exit ?_
      refine At.thenexit ?_
      refine At.thenexit ?_
      refine At.blockexit ?_
      refine At.then_ ?_
      refine WC.seq ?_
      refine WL.p (by rfl) (Yl.move (by rfl)) ?_
      refine WL.p (by rfl) (Yl.assign (by rfl)) ?_
      refine WL.next ?_
      refine WC.ret ?_
      refine fin1' rfl (by rfl) ?_
      refine RetP.mk hs ?_
      rw [← hJ3, lessN_zero hJ1]

theorem c_laws_szServer (a : PServer) (left : Int) (w : World) (h_a : Ph.ok w a) (hl0 : 0 ≤ left) (hl1 : left ≤ 1048576) : Calls Tryd.prog 25 [.agg #[S a.host, Sl.v a.files], I left].toArray w (RetP w (I (lessN left a.lg.size))) := by
  have hb0 : a.host.length ≤ 9223372036854775807 := h_a.host
  refine enterN 19 Tryd.func25 rfl rfl rfl ?_
  have hs := Sat.start w
  refine WC.seq ?_
  refine WL.r (by rfl) (Yr.box hs (by rfl) (by rfl)) ?_
  clear hs; rintro _ w ⟨b1, rfl, hb, hs⟩; clear hb
  refine WL.p (by rfl) (Yl.assign (by rfl)) ?_
  refine WL.next ?_
  refine WC.seq ?_
  refine WL.p (by rfl) (Yl.move (by rfl)) ?_
  refine WL.p (by rfl) (Yl.fieldAddr fa44_0 (by rfl)) ?_
  refine WL.p (by rfl) (Yl.loadB sca9 (by rfl) hs (by repeat (first | exact List.mem_cons_self | apply List.mem_cons_of_mem)) (by rfl)) ?_
  refine WL.p (by rfl) (Yl.len_str str9 (by rfl)) ?_
  refine WL.p (by rfl) (Yl.sub_ (by rfl) (by rfl) (by omega)) ?_
  refine WL.p (by rfl) (Yl.assign (by rfl)) ?_
  refine WL.next ?_
  refine WC.seq' ?_
  refine WC.seq ?_
  refine WL.p (by rfl) (Yl.move (by rfl)) ?_
  refine WL.p (by rfl) (Yl.lss (by rfl) (by rfl)) ?_
  refine WL.next ?_
  refine WC.condS (by rfl) (fun h1 => ?_) (fun h1 => ?_)
  ·
    replace h1 := of_decide_eq_true h1
    refine WC.seq ?_
    refine WL.p (by rfl) (Yl.assign (by rfl)) ?_
    refine WL.next ?_
    refine WC.ret ?_
    refine At.thenret ?_
    refine fin1' rfl (by rfl) ?_
    refine RetP.mk hs ?_
    first
      | (rw [lessN_lt (left := left) (n := a.lg.size) (by simp only [TServer.size]; omega)]; done)
      | (rw [lessN_ge (left := left) (n := a.lg.size) (by simp only [TServer.size]; omega)]; try exact congrArg I (by simp only [TServer.size] <;> omega))
  ·
    replace h1 := of_decide_eq_false h1
    refine WC.skipn ?_
    refine WC.seq ?_
    refine WL.p (by rfl) (Yl.fieldAddr fa44_1 (by rfl)) ?_
    refine WL.p (by rfl) (Yl.loadB sca42 (by rfl) hs (by repeat (first | exact List.mem_cons_self | apply List.mem_cons_of_mem)) (by rfl)) ?_
    refine WL.p (by rfl) (Yl.move (by rfl)) ?_
    refine WL.callp hs (by rfl) (Yc.func (by rfl) fn65) (c_laws_szFileS _ _ _ (Ph.old h_a.files hs) (by first | assumption | omega | (simp only [TServer.size]; omega)) (by first | assumption | omega | (simp only [TServer.size]; omega))) ?_
    clear hs; intro w hs
    refine WL.p (by rfl) (Yl.assign (by rfl)) ?_
    refine WL.next ?_
    refine WC.seq' ?_
    refine WC.seq ?_
    refine WL.p (by rfl) (Yl.move (by rfl)) ?_
    refine WL.p (by rfl) (Yl.lss (by rfl) (by rfl)) ?_
    refine WL.next ?_
    refine WC.condS (by rfl) (fun h2 => ?_) (fun h2 => ?_)
    ·
      replace h2 := lessN_neg (of_decide_eq_true h2)
      refine WC.seq ?_
      refine WL.p (by rfl) (Yl.assign (by rfl)) ?_
      refine WL.next ?_
      refine WC.ret ?_
      refine At.thenret ?_
      refine fin1' rfl (by rfl) ?_
      refine RetP.mk hs ?_
      first
        | (rw [lessN_lt (left := left) (n := a.lg.size) (by simp only [TServer.size]; omega)]; done)
        | (rw [lessN_ge (left := left) (n := a.lg.size) (by simp only [TServer.size]; omega)]; try exact congrArg I (by simp only [TServer.size] <;> omega))
    ·
      replace h2 := lessN_nn (by omega) (of_decide_eq_false h2)
      refine WC.skipn ?_
      refine WC.seq ?_
      refine WL.p (by rfl) (Yl.move (by rfl)) ?_
      refine WL.p (by rfl) (Yl.assign (by rfl)) ?_
      refine WL.next ?_
      refine WC.ret ?_
      refine fin1' rfl (by rfl) ?_
      refine RetP.mk hs ?_
      first
        | (rw [lessN_lt (left := left) (n := a.lg.size) (by simp only [TServer.size]; omega)]; done)
        | (rw [lessN_ge (left := left) (n := a.lg.size) (by simp only [TServer.size]; omega)]; try exact congrArg I (by simp only [TServer.size] <;> omega))

theorem c_laws_szServerS (a : (Sl PServer)) (left : Int) (w : World) (h_a : Ph.ok w a) (hl0 : 0 ≤ left) (hl1 : left ≤ 1048576) : Calls Tryd.prog 35 [Sl.v a, I left].toArray w (RetP w (I (lessN left (lsz (fun x : PServer => x.lg.size) a.l)))) := by
  have hw := h_a.lt
  refine enterN 27 Tryd.func35 rfl rfl rfl ?_
  have hs := Sat.start w
  refine WC.seq ?_
  refine WL.p (by rfl) (Yl.assign (by rfl)) ?_
  refine WL.next ?_
  refine WC.seq ?_
  refine WL.p (by rfl) (Yl.move (by rfl)) ?_
  refine WL.p (by rfl) (Yl.move (by rfl)) ?_
  refine WL.p (by rfl) (Yl.len_sl slu64 (by rfl)) ?_
  refine WL.p (by rfl) (Yl.sub_ (by rfl) (by rfl) (by omega)) ?_
  refine WL.p (by rfl) (Yl.assign (by rfl)) ?_
  refine WL.next ?_
  refine WC.seq' ?_
  refine WC.seq ?_
  refine WL.p (by rfl) (Yl.move (by rfl)) ?_
  refine WL.p (by rfl) (Yl.lss (by rfl) (by rfl)) ?_
  refine WL.next ?_
  refine WC.condS (by rfl) (fun h1 => ?_) (fun h1 => ?_)
  ·
    replace h1 := of_decide_eq_true h1
    refine WC.seq ?_
    refine WL.p (by rfl) (Yl.assign (by rfl)) ?_
    refine WL.next ?_
    refine WC.ret ?_
    refine At.thenret ?_
    refine fin1' rfl (by rfl) ?_
    refine RetP.mk hs ?_
    rw [lessN_lt (by simp only [lsz]; omega)]
  ·
    replace h1 := of_decide_eq_false h1
    refine WC.skipn ?_
    refine WC.seq' ?_
    refine WC.seq ?_
    refine WL.p (by rfl) (Yl.assign (by rfl)) ?_
    refine WL.next ?_
    refine WC.block ?_
    refine WC.loopC (ι := Nat × Int) (fun ⟨k, l⟩ => a.l.length - k) (fun ⟨k, l⟩ => [(5, I (k : Int)), (1, I l)]) (fun _ => []) (fun ⟨k, l⟩ => 0 ≤ l ∧ l ≤ 1048576 ∧ lessN l (lsum (fun x : PServer => x.lg.size) (a.l.drop k)) = lessN left (lsz (fun x : PServer => x.lg.size) a.l)) [(0, _), (6, _), (7, _), (8, _), (9, _), (10, _), (11, _)] (0, left - (a.l.length : Int)) (hs) ⟨by rfl, by rfl, by rfl, by rfl, by rfl, by rfl, by rfl, trivial⟩ ⟨by rfl, by rfl, trivial⟩ ?_ ?_
    ·
      refine ⟨by omega, by omega, ?_⟩
      rw [List.drop_zero, lsz, lessN_sub (by omega)]
    clear hs; rintro ⟨k, l⟩ w ⟨hJ1, hJ2, hJ3⟩ hs
    simp only [List.nil_append] at hs
    refine WC.seq' ?_
    refine WC.seq ?_
    refine WL.p (by rfl) (Yl.move (by rfl)) ?_
    refine WL.p (by rfl) (Yl.move (by rfl)) ?_
    refine WL.p (by rfl) (Yl.len_sl slu64 (by rfl)) ?_
    refine WL.p (by rfl) (Yl.lss (by rfl) (by rfl)) ?_
    refine WL.next ?_
    refine WC.condS (by rfl) (fun h2 => ?_) (fun h2 => ?_)
    ·
      replace h2 := of_decide_eq_true h2
      obtain ⟨d, hd⟩ := exists_get (l := a.l) (k := k) (by omega)
      rw [drop_cons hd, lsum_cons] at hJ3
      refine WC.skipn ?_
      refine WC.seq' ?_
      refine WC.block ?_
      refine WC.seq ?_
      refine WL.p (by rfl) (Yl.move (by rfl)) ?_
      refine WL.p (by rfl) (Yl.move (by rfl)) ?_
      refine WL.p (by rfl) (Yl.indexAddr slt64 (by rfl) (by rfl) (Ph.old h_a hs) (by rfl) (hd)) ?_
      refine WL.p (by rfl) (Yl.loadA agg44 (by rfl) (Sl.Ok.at_ (Ph.old h_a hs) (by assumption)).2 (by rfl)) ?_
      refine WL.p (by rfl) (Yl.move (by rfl)) ?_
      refine WL.callp hs (by rfl) (Yc.func (by rfl) fn25) (c_laws_szServer _ _ _ (Ph.old (Sl.Ok.elem h_a hd) hs) (by first | assumption | omega | (simp only [lsz] at *; omega) | (simp only [lsz, strsz, TPolicy.size, TCache.size, TAddr.size, TRequest.size, TEntry.size, TResponse.size, TLine.size] at *; omega) | (simp only [lsz_map, TPage.size, TBuilder.size, TNode.size, TToken.size, TTokenizer.size, TServer.size, TFile.size, TNet.size, TCache.size, TSheet.size, strsz] at *; omega) | (simp only [lsz_map, TPage.size, TBuilder.size, TNode.size, TToken.size, TTokenizer.size, TServer.size, TFile.size, TNet.size, TCache.size, TSheet.size, strsz, lsz] at *; omega)) (by first | assumption | omega | (simp only [lsz] at *; omega) | (simp only [lsz, strsz, TPolicy.size, TCache.size, TAddr.size, TRequest.size, TEntry.size, TResponse.size, TLine.size] at *; omega) | (simp only [lsz_map, TPage.size, TBuilder.size, TNode.size, TToken.size, TTokenizer.size, TServer.size, TFile.size, TNet.size, TCache.size, TSheet.size, strsz] at *; omega) | (simp only [lsz_map, TPage.size, TBuilder.size, TNode.size, TToken.size, TTokenizer.size, TServer.size, TFile.size, TNet.size, TCache.size, TSheet.size, strsz, lsz] at *; omega))) ?_
      clear hs; intro w hs
      refine WL.p (by rfl) (Yl.assign (by rfl)) ?_
      refine WL.next ?_
      refine WC.seq ?_
      refine WL.p (by rfl) (Yl.move (by rfl)) ?_
      refine WL.p (by rfl) (Yl.lss (by rfl) (by rfl)) ?_
      refine WL.next ?_
      refine WC.condS (by rfl) (fun h3 => ?_) (fun h3 => ?_)
      ·
        replace h3 := lessN_neg (of_decide_eq_true h3)
        refine WC.seq ?_
        refine WL.p (by rfl) (Yl.assign (by rfl)) ?_
        refine WL.next ?_
        refine WC.ret ?_
        refine At.blockret ?_
        refine At.thenret ?_
        refine At.thenret ?_
        refine At.blockret ?_
        refine At.thenret ?_
        refine fin1' rfl (by rfl) ?_
        refine RetP.mk hs ?_
        rw [← hJ3, lessN_add_lt h3]
      ·
        replace h3 := lessN_nn (by omega) (of_decide_eq_false h3)
        refine WC.skip ?_
        refine At.blocknormal ?_
        refine At.then_ ?_
        refine WC.region ?_
        refine WL.p (by rfl) (Yl.move (by rfl)) ?_
        refine WL.p (by rfl) (Yl.add (by rfl) (by rfl) (by omega)) ?_
        refine WL.p (by rfl) (Yl.assign (by rfl)) ?_
        refine WL.nil ?_
        refine At.roundC (k + 1, lessN l d.lg.size) (hs.only (by repeat (first | exact Sel.nil | (apply Sel.cons; (repeat (first | exact Ext.here | apply Ext.there)))))) ⟨by rfl, by rfl, by rfl, by rfl, by rfl, by rfl, by rfl, trivial⟩ ⟨by rfl, by rfl, trivial⟩ ?_ ?_
        ·
          show a.l.length - (k + 1) < a.l.length - k
          omega
        ·
          simp only [h3.2]
          refine ⟨by omega, by omega, ?_⟩
          rw [lessN_sub (by omega), hJ3]
    ·
      replace h2 := of_decide_eq_false h2
      rw [drop_out (l := a.l) (by omega), lsum_nil] at hJ3
      refine WC.exit ?_
      refine At.thenexit ?_
      refine At.thenexit ?_
      refine At.blockexit ?_
      refine At.then_ ?_
      refine WC.seq ?_
      refine WL.p (by rfl) (Yl.move (by rfl)) ?_
      refine WL.p (by rfl) (Yl.assign (by rfl)) ?_
      refine WL.next ?_
      refine WC.ret ?_
      refine fin1' rfl (by rfl) ?_
      refine RetP.mk hs ?_
      rw [← hJ3, lessN_zero hJ1]

theorem c_spec_l5Split (s : Str) (b : UInt8) (w : World)  (hb : s.length ≤ 2097152) : Calls Tryd.prog 50 [S s, U8 b].toArray w (Ret w (fun v w' => ∃ x : Sl Str, v = x.v ∧ x.l = splitC b s ∧ Fresh w x w')) := by
  refine enterN 36 Tryd.func50 rfl rfl rfl ?_
  have hs := Sat.start w
  refine WC.seq ?_
  refine WL.p (by rfl) (Yl.assign (by rfl)) ?_
  refine WL.next ?_
  refine WC.seq ?_
  refine WL.r (by rfl) (Yr.buildSlice hs sll35 (by rfl) (by rfl) (by rfl) (by repeat (first | exact Fill.nil | (apply Fill.cons; rfl; rfl; rfl; repeat (first | (apply SetAt.here; repeat (first | exact Over.nil | apply Over.cons)) | apply SetAt.there)))) (by rfl)) ?_
  clear hs; rintro _ w ⟨b1, rfl, hb, hs⟩; clear hb
  refine WL.p (by rfl) (Yl.assign (by rfl)) ?_
  refine WL.next ?_
  refine WC.seq ?_
  refine WL.p (by rfl) (Yl.assign (by rfl)) ?_
  refine WL.next ?_
  refine WC.seq' ?_
  refine WC.seq ?_
  refine WL.p (by rfl) (Yl.assign (by rfl)) ?_
  refine WL.next ?_
  refine WC.block ?_
  replace hs := Sat.boxow (l := ([] : List Str)) hs rfl rfl (by simp) (ownL_mk_flat (by simp))
  refine WC.loopC (ι := Nat × Nat × Sl Str × List Nat) (fun ⟨k, f, q, F⟩ => s.length + 1 - k) (fun ⟨k, f, q, F⟩ => [(7, I (k : Int)), (6, I (f : Int)), (5, q.v)]) (fun ⟨k, f, q, F⟩ => [ow q F]) (fun ⟨k, f, q, F⟩ => (k ≤ s.length ∧ f ≤ k ∧ splitC b s = q.l ++ preH ((s.drop f).take (k - f)) (splitC b (s.drop k))) ∨ (k = s.length + 1 ∧ splitC b s = q.l)) [(0, _), (1, _), (4, _), (8, _)] (0, 0, ⟨[], some ⟨b1, 0, none⟩, 0⟩, [b1]) (hs.sel (D := [ow (⟨[], some ⟨b1, 0, none⟩, 0⟩ : Sl Str) [b1]]) (by repeat (first | exact Sel.nil | (apply Sel.cons; (repeat (first | exact Ext.here | apply Ext.there)))))) ⟨by rfl, by rfl, by rfl, by rfl, trivial⟩ ⟨by rfl, by rfl, by rfl, trivial⟩ ?_ ?_
  ·
    exact .inl ⟨Nat.zero_le _, Nat.le_refl _, by simp [preH_nil]⟩
  clear hs; rintro ⟨k, f, q, F⟩ w hJ hs
  simp only [List.cons_append, List.nil_append] at hs
  refine WC.seq' ?_
  refine WC.seq ?_
  refine WL.p (by rfl) (Yl.move (by rfl)) ?_
  refine WL.p (by rfl) (Yl.move (by rfl)) ?_
  refine WL.p (by rfl) (Yl.len_str str9 (by rfl)) ?_
  refine WL.p (by rfl) (Yl.leq (by rfl) (by rfl)) ?_
  refine WL.next ?_
  refine WC.condS (by rfl) (fun h1 => ?_) (fun h1 => ?_)
  ·
    replace h1 := of_decide_eq_true h1
    obtain ⟨hJ1, hJ2, hJ3⟩ : k ≤ s.length ∧ f ≤ k ∧ splitC b s = q.l ++ preH ((s.drop f).take (k - f)) (splitC b (s.drop k)) := by
      rcases hJ with h | h
      · exact h
      · omega
    have hlq : q.l.length ≤ s.length + 1 := by
      have e1 := congrArg List.length hJ3
      have e2 := splitC_len b s
      simp only [List.length_append] at e1
      omega
    refine WC.skipn ?_
    refine WC.seq' ?_
    refine WC.block ?_
    refine WC.seq ?_
    refine WL.p (by rfl) (Yl.move (by rfl)) ?_
    refine WL.p (by rfl) (Yl.move (by rfl)) ?_
    refine WL.p (by rfl) (Yl.len_str str9 (by rfl)) ?_
    refine WL.p (by rfl) (Yl.eqi (by rfl) (by rfl)) ?_
    refine WL.p (by rfl) (Yl.move (by rfl)) ?_
    refine WL.split (d := 19) (by rfl) (fun h2 => ?_) (fun h2 => ?_)
    ·
      replace h2 := of_decide_eq_true h2
      refine WL.skip (d := 19) (by rfl) (by rfl) (by rfl) (by rfl) ?_
      refine WL.skip (d := 19) (by rfl) (by rfl) (by rfl) (by rfl) ?_
      refine WL.skip (d := 19) (by rfl) (by rfl) (by rfl) (by rfl) ?_
      refine WL.skip (d := 19) (by rfl) (by rfl) (by rfl) (by rfl) ?_
      refine WL.skip (d := 19) (by rfl) (by rfl) (by rfl) (by rfl) ?_
      refine WL.p (by rfl) (Yl.pickT (by rfl) (by rfl)) ?_
      refine WL.next ?_
      refine WC.condT (by rfl) ?_
      refine WC.seq ?_
      refine WL.p (by rfl) (Yl.move (by rfl)) ?_
      refine WL.p (by rfl) (Yl.move (by rfl)) ?_
      refine WL.p (by rfl) (Yl.move (by rfl)) ?_
      refine WL.p (by rfl) (Yl.move (by rfl)) ?_
      refine WL.p (by rfl) (Yl.slice_str str9 (by rfl) (by exact ⟨_, by rfl⟩) (by exact ⟨_, by rfl⟩) (by omega) (by omega)) ?_
      refine WL.r (by rfl) (Yr.buildSlice hs sll35 (by rfl) (by rfl) (by rfl) (by repeat (first | exact Fill.nil | (apply Fill.cons; rfl; rfl; rfl; repeat (first | (apply SetAt.here; repeat (first | exact Over.nil | apply Over.cons)) | apply SetAt.there)))) (by rfl)) ?_
      clear hs; rintro _ w ⟨b2, rfl, hb, hs⟩; clear hb
      refine WL.r (by rfl) (Yr.append (s := q) (F := F) hs elt35 (by repeat (first | exact Sel.nil | (apply Sel.cons; (repeat (first | exact Ext.here | apply Ext.there))))) (by rfl) (by rfl) rfl (xs := [(s.drop f).take (k - f)]) (hs.box_cells (by repeat (first | exact List.mem_cons_self | apply List.mem_cons_of_mem))) (by intro x hx; obtain rfl := List.mem_singleton.1 hx; show WfS _; unfold WfS; simp only [List.length_take, List.length_drop]; omega) (by simp; unfold maxLen; omega) (by simp; omega)) ?_
      clear hs; rintro _ w ⟨s3, F3, rfl, hl3, hs⟩
      refine WL.p (by rfl) (Yl.assign (by rfl)) ?_
      refine WL.next ?_
      refine WC.region ?_
      refine WL.p (by rfl) (Yl.move (by rfl)) ?_
      refine WL.p (by rfl) (Yl.add (by rfl) (by rfl) (by omega)) ?_
      refine WL.p (by rfl) (Yl.assign (by rfl)) ?_
      refine WL.nil ?_
      refine At.blocknormal ?_
      refine At.then_ ?_
      refine WC.region ?_
      refine WL.p (by rfl) (Yl.move (by rfl)) ?_
      refine WL.p (by rfl) (Yl.add (by rfl) (by rfl) (by omega)) ?_
      refine WL.p (by rfl) (Yl.assign (by rfl)) ?_
      refine WL.nil ?_
      refine At.roundC (k + 1, k + 1, s3, F3) (hs.only (by repeat (first | exact Sel.nil | (apply Sel.cons; (repeat (first | exact Ext.here | apply Ext.there)))))) ⟨by rfl, by rfl, by rfl, by rfl, trivial⟩ ⟨by rfl, by rfl, by rfl, trivial⟩ ?_ ?_
      ·
        show s.length + 1 - (k + 1) < s.length + 1 - k
        omega
      ·
        refine .inr ⟨by omega, ?_⟩
        rw [hl3, hJ3]
        obtain rfl : k = s.length := by omega
        rw [List.drop_length, preH_end]
    ·
      replace h2 := of_decide_eq_false h2
      refine WL.run (d := 19) (by rfl) (by rfl) ?_
      refine WL.p (by rfl) (Yl.move (by rfl)) ?_
      refine WL.run (d := 19) (by rfl) (by rfl) ?_
      refine WL.p (by rfl) (Yl.move (by rfl)) ?_
      refine WL.run (d := 19) (by rfl) (by rfl) ?_
      refine WL.p (by rfl) (Yl.index str9 (by rfl) (by rfl) (by rfl) (by first | assumption | exact List.getElem?_eq_getElem (by omega))) ?_
      refine WL.run (d := 19) (by rfl) (by rfl) ?_
      refine WL.p (by rfl) (Yl.move (by rfl)) ?_
      refine WL.run (d := 19) (by rfl) (by rfl) ?_
      refine WL.p (by rfl) (Yl.eqi (by rfl) (by rfl)) ?_
      refine WL.p (by rfl) (Yl.pickF (by rfl) (by rfl)) ?_
      refine WL.next ?_
      refine WC.condS (by rfl) (fun h3 => ?_) (fun h3 => ?_)
      ·
        replace h3 := of_decide_eq_true h3
        refine WC.seq ?_
        refine WL.p (by rfl) (Yl.move (by rfl)) ?_
        refine WL.p (by rfl) (Yl.move (by rfl)) ?_
        refine WL.p (by rfl) (Yl.move (by rfl)) ?_
        refine WL.p (by rfl) (Yl.move (by rfl)) ?_
        refine WL.p (by rfl) (Yl.slice_str str9 (by rfl) (by exact ⟨_, by rfl⟩) (by exact ⟨_, by rfl⟩) (by omega) (by omega)) ?_
        refine WL.r (by rfl) (Yr.buildSlice hs sll35 (by rfl) (by rfl) (by rfl) (by repeat (first | exact Fill.nil | (apply Fill.cons; rfl; rfl; rfl; repeat (first | (apply SetAt.here; repeat (first | exact Over.nil | apply Over.cons)) | apply SetAt.there)))) (by rfl)) ?_
        clear hs; rintro _ w ⟨b4, rfl, hb, hs⟩; clear hb
        refine WL.r (by rfl) (Yr.append (s := q) (F := F) hs elt35 (by repeat (first | exact Sel.nil | (apply Sel.cons; (repeat (first | exact Ext.here | apply Ext.there))))) (by rfl) (by rfl) rfl (xs := [(s.drop f).take (k - f)]) (hs.box_cells (by repeat (first | exact List.mem_cons_self | apply List.mem_cons_of_mem))) (by intro x hx; obtain rfl := List.mem_singleton.1 hx; show WfS _; unfold WfS; simp only [List.length_take, List.length_drop]; omega) (by simp; unfold maxLen; omega) (by simp; omega)) ?_
        clear hs; rintro _ w ⟨s5, F5, rfl, hl5, hs⟩
        refine WL.p (by rfl) (Yl.assign (by rfl)) ?_
        refine WL.next ?_
        refine WC.region ?_
        refine WL.p (by rfl) (Yl.move (by rfl)) ?_
        refine WL.p (by rfl) (Yl.add (by rfl) (by rfl) (by omega)) ?_
        refine WL.p (by rfl) (Yl.assign (by rfl)) ?_
        refine WL.nil ?_
        refine At.blocknormal ?_
        refine At.then_ ?_
        refine WC.region ?_
        refine WL.p (by rfl) (Yl.move (by rfl)) ?_
        refine WL.p (by rfl) (Yl.add (by rfl) (by rfl) (by omega)) ?_
        refine WL.p (by rfl) (Yl.assign (by rfl)) ?_
        refine WL.nil ?_
        refine At.roundC (k + 1, k + 1, s5, F5) (hs.only (by repeat (first | exact Sel.nil | (apply Sel.cons; (repeat (first | exact Ext.here | apply Ext.there)))))) ⟨by rfl, by rfl, by rfl, by rfl, trivial⟩ ⟨by rfl, by rfl, by rfl, trivial⟩ ?_ ?_
        ·
          show s.length + 1 - (k + 1) < s.length + 1 - k
          omega
        ·
          have hc := List.drop_eq_getElem_cons (l := s) (i := k) (by omega)
          have hcb : s[k] = b := by apply UInt8.toNat_inj.1; omega
          refine .inl ⟨by omega, Nat.le_refl _, ?_⟩
          rw [hl5, hJ3, hc, hcb, preH_cut, Nat.sub_self, List.take_zero, preH_nil]; simp
      ·
        replace h3 := of_decide_eq_false h3
        refine WC.skip ?_
        refine At.blocknormal ?_
        refine At.then_ ?_
        refine WC.region ?_
        refine WL.p (by rfl) (Yl.move (by rfl)) ?_
        refine WL.p (by rfl) (Yl.add (by rfl) (by rfl) (by omega)) ?_
        refine WL.p (by rfl) (Yl.assign (by rfl)) ?_
        refine WL.nil ?_
        refine At.roundC (k + 1, f, q, F) (hs.only (by repeat (first | exact Sel.nil | (apply Sel.cons; (repeat (first | exact Ext.here | apply Ext.there)))))) ⟨by rfl, by rfl, by rfl, by rfl, trivial⟩ ⟨by rfl, by rfl, by rfl, trivial⟩ ?_ ?_
        ·
          show s.length + 1 - (k + 1) < s.length + 1 - k
          omega
        ·
          have hc := List.drop_eq_getElem_cons (l := s) (i := k) (by omega)
          have hcb : s[k] ≠ b := by intro h; apply h3; rw [h]
          refine .inl ⟨by omega, by omega, ?_⟩
          have e : (s.drop f).take (k + 1 - f) = (s.drop f).take (k - f) ++ [s[k]] := by
            rw [show k + 1 - f = (k - f) + 1 from by omega, List.take_add_one, List.getElem?_drop, show f + (k - f) = k from by omega, List.getElem?_eq_getElem (by omega)]; rfl
          rw [e, hJ3, hc, preH_step hcb]
  ·
    replace h1 := of_decide_eq_false h1
    refine WC.exit ?_
    refine At.thenexit ?_
    refine At.thenexit ?_
    refine At.blockexit ?_
    refine At.then_ ?_
    refine WC.seq ?_
    refine WL.p (by rfl) (Yl.move (by rfl)) ?_
    refine WL.p (by rfl) (Yl.assign (by rfl)) ?_
    refine WL.next ?_
    refine WC.ret ?_
    refine fin1' rfl (by rfl) ?_
    refine Ret.mk hs ?_
    rcases hJ with h | ⟨_, h⟩
    · omega
    · exact ⟨q, rfl, h.symm, hs.fresh (by repeat (first | exact List.mem_cons_self | apply List.mem_cons_of_mem))⟩

theorem c_spec_l1In (x : Int) (least : Int) (most : Int) (w : World)   : Calls Tryd.prog 56 [I x, I least, I most].toArray w (RetP w (Bo (inR x least most))) := by
  refine enterN 15 Tryd.func56 rfl rfl rfl ?_
  have hs := Sat.start w
  refine WC.seq ?_
  refine WL.p (by rfl) (Yl.assign (by rfl)) ?_
  refine WL.next ?_
  refine WC.seq ?_
  refine WL.p (by rfl) (Yl.move (by rfl)) ?_
  refine WL.p (by rfl) (Yl.move (by rfl)) ?_
  refine WL.p (by rfl) (Yl.geq (by rfl) (by rfl)) ?_
  refine WL.p (by rfl) (Yl.move (by rfl)) ?_
  refine WL.split (d := 10) (by rfl) (fun h1 => ?_) (fun h1 => ?_)
  ·
    replace h1 := of_decide_eq_true h1
    refine WL.run (d := 10) (by rfl) (by rfl) ?_
    refine WL.p (by rfl) (Yl.move (by rfl)) ?_
    refine WL.run (d := 10) (by rfl) (by rfl) ?_
    refine WL.p (by rfl) (Yl.move (by rfl)) ?_
    refine WL.run (d := 10) (by rfl) (by rfl) ?_
    refine WL.p (by rfl) (Yl.leq (by rfl) (by rfl)) ?_
    refine WL.p (by rfl) (Yl.pickT (by rfl) (by rfl)) ?_
    refine WL.p (by rfl) (Yl.assign (by rfl)) ?_
    refine WL.next ?_
    refine WC.ret ?_
    refine fin1' rfl (by rfl) ?_
    refine RetP.mk hs ?_
    simp [inR, h1]
  ·
    replace h1 := of_decide_eq_false h1
    refine WL.skip (d := 10) (by rfl) (by rfl) (by rfl) (by rfl) ?_
    refine WL.skip (d := 10) (by rfl) (by rfl) (by rfl) (by rfl) ?_
    refine WL.skip (d := 10) (by rfl) (by rfl) (by rfl) (by rfl) ?_
    refine WL.p (by rfl) (Yl.pickF (by rfl) (by rfl)) ?_
    refine WL.p (by rfl) (Yl.assign (by rfl)) ?_
    refine WL.next ?_
    refine WC.ret ?_
    refine fin1' rfl (by rfl) ?_
    refine RetP.mk hs ?_
    rw [inR_false.2 (by omega)]

theorem c_spec_IsName (s : Str) (w : World) (h_s : Ph.ok w s)  : Calls Tryd.prog 66 [S s].toArray w (RetP w (Bo (isName s))) := by
  have hw : s.length ≤ 9223372036854775807 := h_s
  refine enterN 23 Tryd.func66 rfl rfl rfl ?_
  have hs := Sat.start w
  refine WC.seq ?_
  refine WL.p (by rfl) (Yl.assign (by rfl)) ?_
  refine WL.next ?_
  refine WC.seq' ?_
  refine WC.seq ?_
  refine WL.p (by rfl) (Yl.assign (by rfl)) ?_
  refine WL.next ?_
  refine WC.block ?_
  refine WC.loopC (ι := Nat) (fun k => s.length - k) (fun k => [(3, I (k : Int))]) (fun _ => []) (fun k => s.all lower = (s.drop k).all lower) [(0, _)] 0 (hs) ⟨by rfl, trivial⟩ ⟨by rfl, trivial⟩ ?_ ?_
  ·
    simp
  clear hs; rintro k w hJ hs
  simp only [List.nil_append] at hs
  refine WC.seq' ?_
  refine WC.seq ?_
  refine WL.p (by rfl) (Yl.move (by rfl)) ?_
  refine WL.p (by rfl) (Yl.move (by rfl)) ?_
  refine WL.p (by rfl) (Yl.len_str str9 (by rfl)) ?_
  refine WL.p (by rfl) (Yl.lss (by rfl) (by rfl)) ?_
  refine WL.next ?_
  refine WC.condS (by rfl) (fun h1 => ?_) (fun h1 => ?_)
  ·
    replace h1 := of_decide_eq_true h1
    obtain ⟨d, hd⟩ := exists_get (l := s) (k := k) (by omega)
    rw [drop_cons hd] at hJ
    refine WC.skipn ?_
    refine WC.seq' ?_
    refine WC.block ?_
    refine WC.seq ?_
    refine WL.p (by rfl) (Yl.move (by rfl)) ?_
    refine WL.p (by rfl) (Yl.move (by rfl)) ?_
    refine WL.p (by rfl) (Yl.index str9 (by rfl) (by rfl) (by rfl) (by first | assumption | exact List.getElem?_eq_getElem (by omega))) ?_
    refine WL.p (by rfl) (Yl.lss (by rfl) (by rfl)) ?_
    refine WL.p (by rfl) (Yl.move (by rfl)) ?_
    refine WL.split (d := 14) (by rfl) (fun h2 => ?_) (fun h2 => ?_)
    ·
      replace h2 := of_decide_eq_true h2
      refine WL.skip (d := 14) (by rfl) (by rfl) (by rfl) (by rfl) ?_
      refine WL.skip (d := 14) (by rfl) (by rfl) (by rfl) (by rfl) ?_
      refine WL.skip (d := 14) (by rfl) (by rfl) (by rfl) (by rfl) ?_
      refine WL.skip (d := 14) (by rfl) (by rfl) (by rfl) (by rfl) ?_
      refine WL.p (by rfl) (Yl.pickT (by rfl) (by rfl)) ?_
      refine WL.next ?_
      refine WC.condT (by rfl) ?_
      refine WC.seq ?_
      refine WL.p (by rfl) (Yl.assign (by rfl)) ?_
      refine WL.next ?_
      refine WC.ret ?_
      refine At.blockret ?_
      refine At.thenret ?_
      refine At.thenret ?_
      refine At.blockret ?_
      refine At.thenret ?_
      refine fin1' rfl (by rfl) ?_
      refine RetP.mk hs ?_
      first
        | (simp [isName, hJ, lower]; done)
        | (simp [isName, hJ, lower]; omega)
        | simp_all [isName, hJ, lower]
    ·
      replace h2 := of_decide_eq_false h2
      refine WL.run (d := 14) (by rfl) (by rfl) ?_
      refine WL.p (by rfl) (Yl.move (by rfl)) ?_
      refine WL.run (d := 14) (by rfl) (by rfl) ?_
      refine WL.p (by rfl) (Yl.move (by rfl)) ?_
      refine WL.run (d := 14) (by rfl) (by rfl) ?_
      refine WL.p (by rfl) (Yl.index str9 (by rfl) (by rfl) (by rfl) (by first | assumption | exact List.getElem?_eq_getElem (by omega))) ?_
      refine WL.run (d := 14) (by rfl) (by rfl) ?_
      refine WL.p (by rfl) (Yl.gtr (by rfl) (by rfl)) ?_
      refine WL.p (by rfl) (Yl.pickF (by rfl) (by rfl)) ?_
      refine WL.next ?_
      refine WC.condS (by rfl) (fun h3 => ?_) (fun h3 => ?_)
      ·
        replace h3 := of_decide_eq_true h3
        refine WC.seq ?_
        refine WL.p (by rfl) (Yl.assign (by rfl)) ?_
        refine WL.next ?_
        refine WC.ret ?_
        refine At.blockret ?_
        refine At.thenret ?_
        refine At.thenret ?_
        refine At.blockret ?_
        refine At.thenret ?_
        refine fin1' rfl (by rfl) ?_
        refine RetP.mk hs ?_
        first
          | (simp [isName, hJ, lower]; done)
          | (simp [isName, hJ, lower]; omega)
          | simp_all [isName, hJ, lower]
      ·
        replace h3 := of_decide_eq_false h3
        refine WC.skip ?_
        refine At.blocknormal ?_
        refine At.then_ ?_
        refine WC.region ?_
        refine WL.p (by rfl) (Yl.move (by rfl)) ?_
        refine WL.p (by rfl) (Yl.add (by rfl) (by rfl) (by omega)) ?_
        refine WL.p (by rfl) (Yl.assign (by rfl)) ?_
        refine WL.nil ?_
        refine At.roundC (k + 1) (hs.only (by repeat (first | exact Sel.nil | (apply Sel.cons; (repeat (first | exact Ext.here | apply Ext.there)))))) ⟨by rfl, trivial⟩ ⟨by rfl, trivial⟩ ?_ ?_
        ·
          omega
        ·
          rw [hJ]; simp [lower]; omega
  ·
    replace h1 := of_decide_eq_false h1
    rw [drop_out (l := s) (by omega)] at hJ
    refine WC.exit ?_
    refine At.thenexit ?_
    refine At.thenexit ?_
    refine At.blockexit ?_
    refine At.then_ ?_
    refine WC.seq ?_
    refine WL.p (by rfl) (Yl.move (by rfl)) ?_
    refine WL.p (by rfl) (Yl.len_str str9 (by rfl)) ?_
    refine WL.callp hs (by rfl) (Yc.func (by rfl) fn56) (c_spec_l1In _ _ _ _) ?_
    clear hs; intro w hs
    refine WL.p (by rfl) (Yl.assign (by rfl)) ?_
    refine WL.next ?_
    refine WC.ret ?_
    refine fin1' rfl (by rfl) ?_
    refine RetP.mk hs ?_
    first
      | (simp [isName, hJ, lower]; done)
      | (simp [isName, hJ, lower]; omega)
      | simp_all [isName, hJ, lower]

theorem c_spec_l9Names (l : (Sl Str)) (w : World) (h_l : Ph.ok w l)  : Calls Tryd.prog 114 [Sl.v l].toArray w (RetP w (Bo (hosts l.l))) := by
  have hw := h_l.lt
  refine enterN 19 Tryd.func114 rfl rfl rfl ?_
  have hs := Sat.start w
  refine WC.seq ?_
  refine WL.p (by rfl) (Yl.assign (by rfl)) ?_
  refine WL.next ?_
  refine WC.seq' ?_
  refine WC.seq ?_
  refine WL.p (by rfl) (Yl.assign (by rfl)) ?_
  refine WL.next ?_
  refine WC.block ?_
  refine WC.loopC (ι := Nat) (fun k => l.l.length - k) (fun k => [(3, I (k : Int))]) (fun _ => []) (fun k => l.l.all isName = (l.l.drop k).all isName) [(0, _)] 0 (hs) ⟨by rfl, trivial⟩ ⟨by rfl, trivial⟩ ?_ ?_
  ·
    simp
  clear hs; rintro k w hJ hs
  simp only [List.nil_append] at hs
  refine WC.seq' ?_
  refine WC.seq ?_
  refine WL.p (by rfl) (Yl.move (by rfl)) ?_
  refine WL.p (by rfl) (Yl.move (by rfl)) ?_
  refine WL.p (by rfl) (Yl.len_sl slu35 (by rfl)) ?_
  refine WL.p (by rfl) (Yl.lss (by rfl) (by rfl)) ?_
  refine WL.next ?_
  refine WC.condS (by rfl) (fun h1 => ?_) (fun h1 => ?_)
  ·
    replace h1 := of_decide_eq_true h1
    obtain ⟨d, hd⟩ := exists_get (l := l.l) (k := k) (by omega)
    rw [drop_cons hd] at hJ
    refine WC.skipn ?_
    refine WC.seq' ?_
    refine WC.block ?_
    refine WC.seq ?_
    refine WL.p (by rfl) (Yl.move (by rfl)) ?_
    refine WL.p (by rfl) (Yl.move (by rfl)) ?_
    refine WL.p (by rfl) (Yl.indexAddr slt35 (by rfl) (by rfl) (Ph.old h_l hs) (by rfl) (hd)) ?_
    refine WL.p (by rfl) (Yl.loadC0 sca9 (by rfl) (Sl.Ok.at_ (Ph.old h_l hs) (by assumption)).2 (by rfl)) ?_
    refine WL.callp hs (by rfl) (Yc.func (by rfl) fn66) (c_spec_IsName _ _ (Ph.old (Sl.Ok.elem h_l hd) hs)) ?_
    clear hs; intro w hs
    refine WL.p (by rfl) (Yl.not (by rfl)) ?_
    refine WL.next ?_
    refine WC.condS (by rfl) (fun h2 => ?_) (fun h2 => ?_)
    ·
      replace h2 := not_eq_true h2
      refine WC.seq ?_
      refine WL.p (by rfl) (Yl.assign (by rfl)) ?_
      refine WL.next ?_
      refine WC.ret ?_
      refine At.blockret ?_
      refine At.thenret ?_
      refine At.thenret ?_
      refine At.blockret ?_
      refine At.thenret ?_
      refine fin1' rfl (by rfl) ?_
      refine RetP.mk hs ?_
      have e : l.l.all isName = false := by rw [hJ]; simp_all
      simp [hosts, e]
    ·
      replace h2 := not_eq_false h2
      refine WC.skip ?_
      refine At.blocknormal ?_
      refine At.then_ ?_
      refine WC.region ?_
      refine WL.p (by rfl) (Yl.move (by rfl)) ?_
      refine WL.p (by rfl) (Yl.add (by rfl) (by rfl) (by omega)) ?_
      refine WL.p (by rfl) (Yl.assign (by rfl)) ?_
      refine WL.nil ?_
      refine At.roundC (k + 1) (hs.only (by repeat (first | exact Sel.nil | (apply Sel.cons; (repeat (first | exact Ext.here | apply Ext.there)))))) ⟨by rfl, trivial⟩ ⟨by rfl, trivial⟩ ?_ ?_
      ·
        omega
      ·
        rw [hJ]; simp_all
  ·
    replace h1 := of_decide_eq_false h1
    rw [drop_out (l := l.l) (by omega)] at hJ
    refine WC.exit ?_
    refine At.thenexit ?_
    refine At.thenexit ?_
    refine At.blockexit ?_
    refine At.then_ ?_
    refine WC.seq ?_
    refine WL.p (by rfl) (Yl.move (by rfl)) ?_
    refine WL.p (by rfl) (Yl.len_sl slu35 (by rfl)) ?_
    refine WL.p (by rfl) (Yl.leq (by rfl) (by rfl)) ?_
    refine WL.p (by rfl) (Yl.assign (by rfl)) ?_
    refine WL.next ?_
    refine WC.ret ?_
    refine fin1' rfl (by rfl) ?_
    refine RetP.mk hs ?_
    have e : l.l.all isName = true := by rw [hJ]; rfl
    simp only [hosts, e, dec_le4, Bool.true_and]

theorem c_spec_IsValue (s : Str) (w : World) (h_s : Ph.ok w s)  : Calls Tryd.prog 115 [S s].toArray w (RetP w (Bo (isValue s))) := by
  have hw : s.length ≤ 9223372036854775807 := h_s
  refine enterN 41 Tryd.func115 rfl rfl rfl ?_
  have hs := Sat.start w
  refine WC.seq ?_
  refine WL.p (by rfl) (Yl.assign (by rfl)) ?_
  refine WL.next ?_
  refine WC.seq' ?_
  refine WC.seq ?_
  refine WL.p (by rfl) (Yl.assign (by rfl)) ?_
  refine WL.next ?_
  refine WC.block ?_
  refine WC.loopC (ι := Nat) (fun k => s.length - k) (fun k => [(3, I (k : Int))]) (fun _ => []) (fun k => s.all valueByte = (s.drop k).all valueByte) [(0, _)] 0 (hs) ⟨by rfl, trivial⟩ ⟨by rfl, trivial⟩ ?_ ?_
  ·
    simp
  clear hs; rintro k w hJ hs
  simp only [List.nil_append] at hs
  refine WC.seq' ?_
  refine WC.seq ?_
  refine WL.p (by rfl) (Yl.move (by rfl)) ?_
  refine WL.p (by rfl) (Yl.move (by rfl)) ?_
  refine WL.p (by rfl) (Yl.len_str str9 (by rfl)) ?_
  refine WL.p (by rfl) (Yl.lss (by rfl) (by rfl)) ?_
  refine WL.next ?_
  refine WC.condS (by rfl) (fun h1 => ?_) (fun h1 => ?_)
  ·
    replace h1 := of_decide_eq_true h1
    obtain ⟨d, hd⟩ := exists_get (l := s) (k := k) (by omega)
    rw [drop_cons hd] at hJ
    refine WC.skipn ?_
    refine WC.seq' ?_
    refine WC.block ?_
    refine WC.seq ?_
    refine WL.p (by rfl) (Yl.move (by rfl)) ?_
    refine WL.p (by rfl) (Yl.move (by rfl)) ?_
    refine WL.p (by rfl) (Yl.index str9 (by rfl) (by rfl) (by rfl) (by first | assumption | exact List.getElem?_eq_getElem (by omega))) ?_
    refine WL.p (by rfl) (Yl.lss (by rfl) (by rfl)) ?_
    refine WL.p (by rfl) (Yl.move (by rfl)) ?_
    refine WL.split (d := 14) (by rfl) (fun h2 => ?_) (fun h2 => ?_)
    ·
      replace h2 := of_decide_eq_true h2
      refine WL.skip (d := 14) (by rfl) (by rfl) (by rfl) (by rfl) ?_
      refine WL.skip (d := 14) (by rfl) (by rfl) (by rfl) (by rfl) ?_
      refine WL.skip (d := 14) (by rfl) (by rfl) (by rfl) (by rfl) ?_
      refine WL.skip (d := 14) (by rfl) (by rfl) (by rfl) (by rfl) ?_
      refine WL.p (by rfl) (Yl.pickT (by rfl) (by rfl)) ?_
      refine WL.p (by rfl) (Yl.move (by rfl)) ?_
      refine WL.run (d := 20) (by rfl) (by rfl) ?_
      refine WL.p (by rfl) (Yl.move (by rfl)) ?_
      refine WL.run (d := 20) (by rfl) (by rfl) ?_
      refine WL.p (by rfl) (Yl.move (by rfl)) ?_
      refine WL.run (d := 20) (by rfl) (by rfl) ?_
      refine WL.p (by rfl) (Yl.index str9 (by rfl) (by rfl) (by rfl) (by first | assumption | exact List.getElem?_eq_getElem (by omega))) ?_
      refine WL.run (d := 20) (by rfl) (by rfl) ?_
      refine WL.p (by rfl) (Yl.lss (by rfl) (by rfl)) ?_
      refine WL.run (d := 20) (by rfl) (by rfl) ?_
      refine WL.p (by rfl) (Yl.move (by rfl)) ?_
      refine WL.split (d := 25) (by rfl) (fun h3 => ?_) (fun h3 => ?_)
      ·
        replace h3 := of_decide_eq_true h3
        refine WL.skip (d := 25) (by rfl) (by rfl) (by rfl) (by rfl) ?_
        refine WL.skip (d := 25) (by rfl) (by rfl) (by rfl) (by rfl) ?_
        refine WL.skip (d := 25) (by rfl) (by rfl) (by rfl) (by rfl) ?_
        refine WL.skip (d := 25) (by rfl) (by rfl) (by rfl) (by rfl) ?_
        refine WL.run (d := 20) (by rfl) (by rfl) ?_
        refine WL.p (by rfl) (Yl.pickT (by rfl) (by rfl)) ?_
        refine WL.p (by rfl) (Yl.pickT (by rfl) (by rfl)) ?_
        refine WL.p (by rfl) (Yl.move (by rfl)) ?_
        refine WL.run (d := 32) (by rfl) (by rfl) ?_
        refine WL.p (by rfl) (Yl.move (by rfl)) ?_
        refine WL.run (d := 32) (by rfl) (by rfl) ?_
        refine WL.p (by rfl) (Yl.move (by rfl)) ?_
        refine WL.run (d := 32) (by rfl) (by rfl) ?_
        refine WL.p (by rfl) (Yl.index str9 (by rfl) (by rfl) (by rfl) (by first | assumption | exact List.getElem?_eq_getElem (by omega))) ?_
        refine WL.run (d := 32) (by rfl) (by rfl) ?_
        refine WL.p (by rfl) (Yl.nei (by rfl) (by rfl)) ?_
        refine WL.p (by rfl) (Yl.pickT (by rfl) (by rfl)) ?_
        refine WL.next ?_
        refine WC.condS (by rfl) (fun h4 => ?_) (fun h4 => ?_)
        ·
          replace h4 := not_eq_true h4
          replace h4 := of_decide_eq_false h4
          refine WC.seq ?_
          refine WL.p (by rfl) (Yl.assign (by rfl)) ?_
          refine WL.next ?_
          refine WC.ret ?_
          refine At.blockret ?_
          refine At.thenret ?_
          refine At.thenret ?_
          refine At.blockret ?_
          refine At.thenret ?_
          refine fin1' rfl (by rfl) ?_
          refine RetP.mk hs ?_
          first
            | (simp [isValue, hJ, valueByte, lower, digit]; done)
            | (simp [isValue, hJ, valueByte, lower, digit]; omega)
            | simp_all [isValue, hJ, valueByte, lower, digit]
        ·
          replace h4 := not_eq_false h4
          replace h4 := of_decide_eq_true h4
          refine WC.skip ?_
          refine At.blocknormal ?_
          refine At.then_ ?_
          refine WC.region ?_
          refine WL.p (by rfl) (Yl.move (by rfl)) ?_
          refine WL.p (by rfl) (Yl.add (by rfl) (by rfl) (by omega)) ?_
          refine WL.p (by rfl) (Yl.assign (by rfl)) ?_
          refine WL.nil ?_
          refine At.roundC (k + 1) (hs.only (by repeat (first | exact Sel.nil | (apply Sel.cons; (repeat (first | exact Ext.here | apply Ext.there)))))) ⟨by rfl, trivial⟩ ⟨by rfl, trivial⟩ ?_ ?_
          ·
            omega
          ·
            rw [hJ]; simp [valueByte, lower, digit]; omega
      ·
        replace h3 := of_decide_eq_false h3
        refine WL.run (d := 25) (by rfl) (by rfl) ?_
        refine WL.p (by rfl) (Yl.move (by rfl)) ?_
        refine WL.run (d := 25) (by rfl) (by rfl) ?_
        refine WL.p (by rfl) (Yl.move (by rfl)) ?_
        refine WL.run (d := 25) (by rfl) (by rfl) ?_
        refine WL.p (by rfl) (Yl.index str9 (by rfl) (by rfl) (by rfl) (by first | assumption | exact List.getElem?_eq_getElem (by omega))) ?_
        refine WL.run (d := 25) (by rfl) (by rfl) ?_
        refine WL.p (by rfl) (Yl.gtr (by rfl) (by rfl)) ?_
        refine WL.run (d := 20) (by rfl) (by rfl) ?_
        refine WL.p (by rfl) (Yl.pickF (by rfl) (by rfl)) ?_
        refine WL.p (by rfl) (Yl.pickT (by rfl) (by rfl)) ?_
        refine WL.p (by rfl) (Yl.move (by rfl)) ?_
        refine WL.split (d := 32) (by rfl) (fun h4 => ?_) (fun h4 => ?_)
        ·
          replace h4 := of_decide_eq_true h4
          refine WL.run (d := 32) (by rfl) (by rfl) ?_
          refine WL.p (by rfl) (Yl.move (by rfl)) ?_
          refine WL.run (d := 32) (by rfl) (by rfl) ?_
          refine WL.p (by rfl) (Yl.move (by rfl)) ?_
          refine WL.run (d := 32) (by rfl) (by rfl) ?_
          refine WL.p (by rfl) (Yl.index str9 (by rfl) (by rfl) (by rfl) (by first | assumption | exact List.getElem?_eq_getElem (by omega))) ?_
          refine WL.run (d := 32) (by rfl) (by rfl) ?_
          refine WL.p (by rfl) (Yl.nei (by rfl) (by rfl)) ?_
          refine WL.p (by rfl) (Yl.pickT (by rfl) (by rfl)) ?_
          refine WL.next ?_
          refine WC.condS (by rfl) (fun h5 => ?_) (fun h5 => ?_)
          ·
            replace h5 := not_eq_true h5
            replace h5 := of_decide_eq_false h5
            refine WC.seq ?_
            refine WL.p (by rfl) (Yl.assign (by rfl)) ?_
            refine WL.next ?_
            refine WC.ret ?_
            refine At.blockret ?_
            refine At.thenret ?_
            refine At.thenret ?_
            refine At.blockret ?_
            refine At.thenret ?_
            refine fin1' rfl (by rfl) ?_
            refine RetP.mk hs ?_
            first
              | (simp [isValue, hJ, valueByte, lower, digit]; done)
              | (simp [isValue, hJ, valueByte, lower, digit]; omega)
              | simp_all [isValue, hJ, valueByte, lower, digit]
          ·
            replace h5 := not_eq_false h5
            replace h5 := of_decide_eq_true h5
            refine WC.skip ?_
            refine At.blocknormal ?_
            refine At.then_ ?_
            refine WC.region ?_
            refine WL.p (by rfl) (Yl.move (by rfl)) ?_
            refine WL.p (by rfl) (Yl.add (by rfl) (by rfl) (by omega)) ?_
            refine WL.p (by rfl) (Yl.assign (by rfl)) ?_
            refine WL.nil ?_
            refine At.roundC (k + 1) (hs.only (by repeat (first | exact Sel.nil | (apply Sel.cons; (repeat (first | exact Ext.here | apply Ext.there)))))) ⟨by rfl, trivial⟩ ⟨by rfl, trivial⟩ ?_ ?_
            ·
              omega
            ·
              rw [hJ]; simp [valueByte, lower, digit]; omega
        ·
          replace h4 := of_decide_eq_false h4
          refine WL.skip (d := 32) (by rfl) (by rfl) (by rfl) (by rfl) ?_
          refine WL.skip (d := 32) (by rfl) (by rfl) (by rfl) (by rfl) ?_
          refine WL.skip (d := 32) (by rfl) (by rfl) (by rfl) (by rfl) ?_
          refine WL.skip (d := 32) (by rfl) (by rfl) (by rfl) (by rfl) ?_
          refine WL.p (by rfl) (Yl.pickF (by rfl) (by rfl)) ?_
          refine WL.next ?_
          refine WC.condF (by rfl) ?_
          refine WC.skip ?_
          refine At.blocknormal ?_
          refine At.then_ ?_
          refine WC.region ?_
          refine WL.p (by rfl) (Yl.move (by rfl)) ?_
          refine WL.p (by rfl) (Yl.add (by rfl) (by rfl) (by omega)) ?_
          refine WL.p (by rfl) (Yl.assign (by rfl)) ?_
          refine WL.nil ?_
          refine At.roundC (k + 1) (hs.only (by repeat (first | exact Sel.nil | (apply Sel.cons; (repeat (first | exact Ext.here | apply Ext.there)))))) ⟨by rfl, trivial⟩ ⟨by rfl, trivial⟩ ?_ ?_
          ·
            omega
          ·
            rw [hJ]; simp [valueByte, lower, digit]; omega
    ·
      replace h2 := of_decide_eq_false h2
      refine WL.run (d := 14) (by rfl) (by rfl) ?_
      refine WL.p (by rfl) (Yl.move (by rfl)) ?_
      refine WL.run (d := 14) (by rfl) (by rfl) ?_
      refine WL.p (by rfl) (Yl.move (by rfl)) ?_
      refine WL.run (d := 14) (by rfl) (by rfl) ?_
      refine WL.p (by rfl) (Yl.index str9 (by rfl) (by rfl) (by rfl) (by first | assumption | exact List.getElem?_eq_getElem (by omega))) ?_
      refine WL.run (d := 14) (by rfl) (by rfl) ?_
      refine WL.p (by rfl) (Yl.gtr (by rfl) (by rfl)) ?_
      refine WL.p (by rfl) (Yl.pickF (by rfl) (by rfl)) ?_
      refine WL.p (by rfl) (Yl.move (by rfl)) ?_
      refine WL.split (d := 20) (by rfl) (fun h3 => ?_) (fun h3 => ?_)
      ·
        replace h3 := of_decide_eq_true h3
        refine WL.run (d := 20) (by rfl) (by rfl) ?_
        refine WL.p (by rfl) (Yl.move (by rfl)) ?_
        refine WL.run (d := 20) (by rfl) (by rfl) ?_
        refine WL.p (by rfl) (Yl.move (by rfl)) ?_
        refine WL.run (d := 20) (by rfl) (by rfl) ?_
        refine WL.p (by rfl) (Yl.index str9 (by rfl) (by rfl) (by rfl) (by first | assumption | exact List.getElem?_eq_getElem (by omega))) ?_
        refine WL.run (d := 20) (by rfl) (by rfl) ?_
        refine WL.p (by rfl) (Yl.lss (by rfl) (by rfl)) ?_
        refine WL.run (d := 20) (by rfl) (by rfl) ?_
        refine WL.p (by rfl) (Yl.move (by rfl)) ?_
        refine WL.split (d := 25) (by rfl) (fun h4 => ?_) (fun h4 => ?_)
        ·
          replace h4 := of_decide_eq_true h4
          refine WL.skip (d := 25) (by rfl) (by rfl) (by rfl) (by rfl) ?_
          refine WL.skip (d := 25) (by rfl) (by rfl) (by rfl) (by rfl) ?_
          refine WL.skip (d := 25) (by rfl) (by rfl) (by rfl) (by rfl) ?_
          refine WL.skip (d := 25) (by rfl) (by rfl) (by rfl) (by rfl) ?_
          refine WL.run (d := 20) (by rfl) (by rfl) ?_
          refine WL.p (by rfl) (Yl.pickT (by rfl) (by rfl)) ?_
          refine WL.p (by rfl) (Yl.pickT (by rfl) (by rfl)) ?_
          refine WL.p (by rfl) (Yl.move (by rfl)) ?_
          refine WL.run (d := 32) (by rfl) (by rfl) ?_
          refine WL.p (by rfl) (Yl.move (by rfl)) ?_
          refine WL.run (d := 32) (by rfl) (by rfl) ?_
          refine WL.p (by rfl) (Yl.move (by rfl)) ?_
          refine WL.run (d := 32) (by rfl) (by rfl) ?_
          refine WL.p (by rfl) (Yl.index str9 (by rfl) (by rfl) (by rfl) (by first | assumption | exact List.getElem?_eq_getElem (by omega))) ?_
          refine WL.run (d := 32) (by rfl) (by rfl) ?_
          refine WL.p (by rfl) (Yl.nei (by rfl) (by rfl)) ?_
          refine WL.p (by rfl) (Yl.pickT (by rfl) (by rfl)) ?_
          refine WL.next ?_
          refine WC.condS (by rfl) (fun h5 => ?_) (fun h5 => ?_)
          ·
            replace h5 := not_eq_true h5
            replace h5 := of_decide_eq_false h5
            refine WC.seq ?_
            refine WL.p (by rfl) (Yl.assign (by rfl)) ?_
            refine WL.next ?_
            refine WC.ret ?_
            refine At.blockret ?_
            refine At.thenret ?_
            refine At.thenret ?_
            refine At.blockret ?_
            refine At.thenret ?_
            refine fin1' rfl (by rfl) ?_
            refine RetP.mk hs ?_
            first
              | (simp [isValue, hJ, valueByte, lower, digit]; done)
              | (simp [isValue, hJ, valueByte, lower, digit]; omega)
              | simp_all [isValue, hJ, valueByte, lower, digit]
          ·
            replace h5 := not_eq_false h5
            replace h5 := of_decide_eq_true h5
            refine WC.skip ?_
            refine At.blocknormal ?_
            refine At.then_ ?_
            refine WC.region ?_
            refine WL.p (by rfl) (Yl.move (by rfl)) ?_
            refine WL.p (by rfl) (Yl.add (by rfl) (by rfl) (by omega)) ?_
            refine WL.p (by rfl) (Yl.assign (by rfl)) ?_
            refine WL.nil ?_
            refine At.roundC (k + 1) (hs.only (by repeat (first | exact Sel.nil | (apply Sel.cons; (repeat (first | exact Ext.here | apply Ext.there)))))) ⟨by rfl, trivial⟩ ⟨by rfl, trivial⟩ ?_ ?_
            ·
              omega
            ·
              rw [hJ]; simp [valueByte, lower, digit]; omega
        ·
          replace h4 := of_decide_eq_false h4
          refine WL.run (d := 25) (by rfl) (by rfl) ?_
          refine WL.p (by rfl) (Yl.move (by rfl)) ?_
          refine WL.run (d := 25) (by rfl) (by rfl) ?_
          refine WL.p (by rfl) (Yl.move (by rfl)) ?_
          refine WL.run (d := 25) (by rfl) (by rfl) ?_
          refine WL.p (by rfl) (Yl.index str9 (by rfl) (by rfl) (by rfl) (by first | assumption | exact List.getElem?_eq_getElem (by omega))) ?_
          refine WL.run (d := 25) (by rfl) (by rfl) ?_
          refine WL.p (by rfl) (Yl.gtr (by rfl) (by rfl)) ?_
          refine WL.run (d := 20) (by rfl) (by rfl) ?_
          refine WL.p (by rfl) (Yl.pickF (by rfl) (by rfl)) ?_
          refine WL.p (by rfl) (Yl.pickT (by rfl) (by rfl)) ?_
          refine WL.p (by rfl) (Yl.move (by rfl)) ?_
          refine WL.split (d := 32) (by rfl) (fun h5 => ?_) (fun h5 => ?_)
          ·
            replace h5 := of_decide_eq_true h5
            refine WL.run (d := 32) (by rfl) (by rfl) ?_
            refine WL.p (by rfl) (Yl.move (by rfl)) ?_
            refine WL.run (d := 32) (by rfl) (by rfl) ?_
            refine WL.p (by rfl) (Yl.move (by rfl)) ?_
            refine WL.run (d := 32) (by rfl) (by rfl) ?_
            refine WL.p (by rfl) (Yl.index str9 (by rfl) (by rfl) (by rfl) (by first | assumption | exact List.getElem?_eq_getElem (by omega))) ?_
            refine WL.run (d := 32) (by rfl) (by rfl) ?_
            refine WL.p (by rfl) (Yl.nei (by rfl) (by rfl)) ?_
            refine WL.p (by rfl) (Yl.pickT (by rfl) (by rfl)) ?_
            refine WL.next ?_
            refine WC.condS (by rfl) (fun h6 => ?_) (fun h6 => ?_)
            ·
              replace h6 := not_eq_true h6
              replace h6 := of_decide_eq_false h6
              refine WC.seq ?_
              refine WL.p (by rfl) (Yl.assign (by rfl)) ?_
              refine WL.next ?_
              refine WC.ret ?_
              refine At.blockret ?_
              refine At.thenret ?_
              refine At.thenret ?_
              refine At.blockret ?_
              refine At.thenret ?_
              refine fin1' rfl (by rfl) ?_
              refine RetP.mk hs ?_
              first
                | (simp [isValue, hJ, valueByte, lower, digit]; done)
                | (simp [isValue, hJ, valueByte, lower, digit]; omega)
                | simp_all [isValue, hJ, valueByte, lower, digit]
            ·
              replace h6 := not_eq_false h6
              replace h6 := of_decide_eq_true h6
              refine WC.skip ?_
              refine At.blocknormal ?_
              refine At.then_ ?_
              refine WC.region ?_
              refine WL.p (by rfl) (Yl.move (by rfl)) ?_
              refine WL.p (by rfl) (Yl.add (by rfl) (by rfl) (by omega)) ?_
              refine WL.p (by rfl) (Yl.assign (by rfl)) ?_
              refine WL.nil ?_
              refine At.roundC (k + 1) (hs.only (by repeat (first | exact Sel.nil | (apply Sel.cons; (repeat (first | exact Ext.here | apply Ext.there)))))) ⟨by rfl, trivial⟩ ⟨by rfl, trivial⟩ ?_ ?_
              ·
                omega
              ·
                rw [hJ]; simp [valueByte, lower, digit]; omega
          ·
            replace h5 := of_decide_eq_false h5
            refine WL.skip (d := 32) (by rfl) (by rfl) (by rfl) (by rfl) ?_
            refine WL.skip (d := 32) (by rfl) (by rfl) (by rfl) (by rfl) ?_
            refine WL.skip (d := 32) (by rfl) (by rfl) (by rfl) (by rfl) ?_
            refine WL.skip (d := 32) (by rfl) (by rfl) (by rfl) (by rfl) ?_
            refine WL.p (by rfl) (Yl.pickF (by rfl) (by rfl)) ?_
            refine WL.next ?_
            refine WC.condF (by rfl) ?_
            refine WC.skip ?_
            refine At.blocknormal ?_
            refine At.then_ ?_
            refine WC.region ?_
            refine WL.p (by rfl) (Yl.move (by rfl)) ?_
            refine WL.p (by rfl) (Yl.add (by rfl) (by rfl) (by omega)) ?_
            refine WL.p (by rfl) (Yl.assign (by rfl)) ?_
            refine WL.nil ?_
            refine At.roundC (k + 1) (hs.only (by repeat (first | exact Sel.nil | (apply Sel.cons; (repeat (first | exact Ext.here | apply Ext.there)))))) ⟨by rfl, trivial⟩ ⟨by rfl, trivial⟩ ?_ ?_
            ·
              omega
            ·
              rw [hJ]; simp [valueByte, lower, digit]; omega
      ·
        replace h3 := of_decide_eq_false h3
        refine WL.skip (d := 20) (by rfl) (by rfl) (by rfl) (by rfl) ?_
        refine WL.skip (d := 20) (by rfl) (by rfl) (by rfl) (by rfl) ?_
        refine WL.skip (d := 20) (by rfl) (by rfl) (by rfl) (by rfl) ?_
        refine WL.skip (d := 20) (by rfl) (by rfl) (by rfl) (by rfl) ?_
        refine WL.skip (d := 20) (by rfl) (by rfl) (by rfl) (by rfl) ?_
        refine WL.skipU (d := 25) (by rfl) (by rfl) (by rfl) ?_
        refine WL.skipU (d := 25) (by rfl) (by rfl) (by rfl) ?_
        refine WL.skipU (d := 25) (by rfl) (by rfl) (by rfl) ?_
        refine WL.skipU (d := 25) (by rfl) (by rfl) (by rfl) ?_
        refine WL.skip (d := 20) (by rfl) (by rfl) (by rfl) (by rfl) ?_
        refine WL.p (by rfl) (Yl.pickF (by rfl) (by rfl)) ?_
        refine WL.p (by rfl) (Yl.move (by rfl)) ?_
        refine WL.skip (d := 32) (by rfl) (by rfl) (by rfl) (by rfl) ?_
        refine WL.skip (d := 32) (by rfl) (by rfl) (by rfl) (by rfl) ?_
        refine WL.skip (d := 32) (by rfl) (by rfl) (by rfl) (by rfl) ?_
        refine WL.skip (d := 32) (by rfl) (by rfl) (by rfl) (by rfl) ?_
        refine WL.p (by rfl) (Yl.pickF (by rfl) (by rfl)) ?_
        refine WL.next ?_
        refine WC.condF (by rfl) ?_
        refine WC.skip ?_
        refine At.blocknormal ?_
        refine At.then_ ?_
        refine WC.region ?_
        refine WL.p (by rfl) (Yl.move (by rfl)) ?_
        refine WL.p (by rfl) (Yl.add (by rfl) (by rfl) (by omega)) ?_
        refine WL.p (by rfl) (Yl.assign (by rfl)) ?_
        refine WL.nil ?_
        refine At.roundC (k + 1) (hs.only (by repeat (first | exact Sel.nil | (apply Sel.cons; (repeat (first | exact Ext.here | apply Ext.there)))))) ⟨by rfl, trivial⟩ ⟨by rfl, trivial⟩ ?_ ?_
        ·
          omega
        ·
          rw [hJ]; simp [valueByte, lower, digit]; omega
  ·
    replace h1 := of_decide_eq_false h1
    rw [drop_out (l := s) (by omega)] at hJ
    refine WC.exit ?_
    refine At.thenexit ?_
    refine At.thenexit ?_
    refine At.blockexit ?_
    refine At.then_ ?_
    refine WC.seq ?_
    refine WL.p (by rfl) (Yl.move (by rfl)) ?_
    refine WL.p (by rfl) (Yl.len_str str9 (by rfl)) ?_
    refine WL.callp hs (by rfl) (Yc.func (by rfl) fn56) (c_spec_l1In _ _ _ _) ?_
    clear hs; intro w hs
    refine WL.p (by rfl) (Yl.assign (by rfl)) ?_
    refine WL.next ?_
    refine WC.ret ?_
    refine fin1' rfl (by rfl) ?_
    refine RetP.mk hs ?_
    first
      | (simp [isValue, hJ, valueByte, lower, digit]; done)
      | (simp [isValue, hJ, valueByte, lower, digit]; omega)
      | simp_all [isValue, hJ, valueByte, lower, digit]

theorem c_spec_IsPolicy (p : PPolicy) (w : World) (h_p : Ph.ok w p)  : Calls Tryd.prog 93 [.agg #[Bo p.set, Sl.v p.scripts, Sl.v p.styles, Sl.v p.images, S p.nonce]].toArray w (RetP w (Bo (p.lg.is))) := by
  refine enterN 50 Tryd.func93 rfl rfl rfl ?_
  have hs := Sat.start w
  refine WC.seq ?_
  refine WL.r (by rfl) (Yr.box hs (by rfl) (by rfl)) ?_
  clear hs; rintro _ w ⟨b1, rfl, hb, hs⟩; clear hb
  refine WL.p (by rfl) (Yl.assign (by rfl)) ?_
  refine WL.next ?_
  refine WC.seq' ?_
  refine WC.seq ?_
  refine WL.p (by rfl) (Yl.fieldAddr fa37_0 (by rfl)) ?_
  refine WL.p (by rfl) (Yl.loadB sca4 (by rfl) hs (by repeat (first | exact List.mem_cons_self | apply List.mem_cons_of_mem)) (by rfl)) ?_
  refine WL.p (by rfl) (Yl.not (by rfl)) ?_
  refine WL.next ?_
  refine WC.condS (by rfl) (fun h1 => ?_) (fun h1 => ?_)
  ·
    replace h1 := not_eq_true h1
    refine WC.seq ?_
    refine WL.p (by rfl) (Yl.fieldAddr fa37_1 (by rfl)) ?_
    refine WL.p (by rfl) (Yl.loadB sca35 (by rfl) hs (by repeat (first | exact List.mem_cons_self | apply List.mem_cons_of_mem)) (by rfl)) ?_
    refine WL.p (by rfl) (Yl.len_sl slu35 (by rfl)) ?_
    refine WL.p (by rfl) (Yl.eqi (by rfl) (by rfl)) ?_
    refine WL.p (by rfl) (Yl.move (by rfl)) ?_
    refine WL.split (d := 10) (by rfl) (fun h2 => ?_) (fun h2 => ?_)
    ·
      replace h2 := of_decide_eq_true h2
      refine WL.run (d := 10) (by rfl) (by rfl) ?_
      refine WL.p (by rfl) (Yl.fieldAddr fa37_2 (by rfl)) ?_
      refine WL.run (d := 10) (by rfl) (by rfl) ?_
      refine WL.p (by rfl) (Yl.loadB sca35 (by rfl) hs (by repeat (first | exact List.mem_cons_self | apply List.mem_cons_of_mem)) (by rfl)) ?_
      refine WL.run (d := 10) (by rfl) (by rfl) ?_
      refine WL.p (by rfl) (Yl.len_sl slu35 (by rfl)) ?_
      refine WL.run (d := 10) (by rfl) (by rfl) ?_
      refine WL.p (by rfl) (Yl.eqi (by rfl) (by rfl)) ?_
      refine WL.p (by rfl) (Yl.pickT (by rfl) (by rfl)) ?_
      refine WL.p (by rfl) (Yl.move (by rfl)) ?_
      refine WL.split (d := 16) (by rfl) (fun h3 => ?_) (fun h3 => ?_)
      ·
        replace h3 := of_decide_eq_true h3
        refine WL.run (d := 16) (by rfl) (by rfl) ?_
        refine WL.p (by rfl) (Yl.fieldAddr fa37_3 (by rfl)) ?_
        refine WL.run (d := 16) (by rfl) (by rfl) ?_
        refine WL.p (by rfl) (Yl.loadB sca35 (by rfl) hs (by repeat (first | exact List.mem_cons_self | apply List.mem_cons_of_mem)) (by rfl)) ?_
        refine WL.run (d := 16) (by rfl) (by rfl) ?_
        refine WL.p (by rfl) (Yl.len_sl slu35 (by rfl)) ?_
        refine WL.run (d := 16) (by rfl) (by rfl) ?_
        refine WL.p (by rfl) (Yl.eqi (by rfl) (by rfl)) ?_
        refine WL.p (by rfl) (Yl.pickT (by rfl) (by rfl)) ?_
        refine WL.p (by rfl) (Yl.move (by rfl)) ?_
        refine WL.split (d := 22) (by rfl) (fun h4 => ?_) (fun h4 => ?_)
        ·
          replace h4 := of_decide_eq_true h4
          refine WL.run (d := 22) (by rfl) (by rfl) ?_
          refine WL.p (by rfl) (Yl.fieldAddr fa37_4 (by rfl)) ?_
          refine WL.run (d := 22) (by rfl) (by rfl) ?_
          refine WL.p (by rfl) (Yl.loadB sca9 (by rfl) hs (by repeat (first | exact List.mem_cons_self | apply List.mem_cons_of_mem)) (by rfl)) ?_
          refine WL.run (d := 22) (by rfl) (by rfl) ?_
          refine WL.p (by rfl) (Yl.eqs (by rfl) (by rfl)) ?_
          refine WL.p (by rfl) (Yl.pickT (by rfl) (by rfl)) ?_
          refine WL.p (by rfl) (Yl.assign (by rfl)) ?_
          refine WL.next ?_
          refine WC.ret ?_
          refine At.thenret ?_
          refine fin1' rfl (by rfl) ?_
          refine RetP.mk hs ?_
          simp_all [TPolicy.is]
        ·
          replace h4 := of_decide_eq_false h4
          refine WL.skip (d := 22) (by rfl) (by rfl) (by rfl) (by rfl) ?_
          refine WL.skip (d := 22) (by rfl) (by rfl) (by rfl) (by rfl) ?_
          refine WL.skip (d := 22) (by rfl) (by rfl) (by rfl) (by rfl) ?_
          refine WL.p (by rfl) (Yl.pickF (by rfl) (by rfl)) ?_
          refine WL.p (by rfl) (Yl.assign (by rfl)) ?_
          refine WL.next ?_
          refine WC.ret ?_
          refine At.thenret ?_
          refine fin1' rfl (by rfl) ?_
          refine RetP.mk hs ?_
          simp_all [TPolicy.is]
      ·
        replace h3 := of_decide_eq_false h3
        refine WL.skip (d := 16) (by rfl) (by rfl) (by rfl) (by rfl) ?_
        refine WL.skip (d := 16) (by rfl) (by rfl) (by rfl) (by rfl) ?_
        refine WL.skip (d := 16) (by rfl) (by rfl) (by rfl) (by rfl) ?_
        refine WL.skip (d := 16) (by rfl) (by rfl) (by rfl) (by rfl) ?_
        refine WL.p (by rfl) (Yl.pickF (by rfl) (by rfl)) ?_
        refine WL.p (by rfl) (Yl.move (by rfl)) ?_
        refine WL.skip (d := 22) (by rfl) (by rfl) (by rfl) (by rfl) ?_
        refine WL.skip (d := 22) (by rfl) (by rfl) (by rfl) (by rfl) ?_
        refine WL.skip (d := 22) (by rfl) (by rfl) (by rfl) (by rfl) ?_
        refine WL.p (by rfl) (Yl.pickF (by rfl) (by rfl)) ?_
        refine WL.p (by rfl) (Yl.assign (by rfl)) ?_
        refine WL.next ?_
        refine WC.ret ?_
        refine At.thenret ?_
        refine fin1' rfl (by rfl) ?_
        refine RetP.mk hs ?_
        simp_all [TPolicy.is]
    ·
      replace h2 := of_decide_eq_false h2
      refine WL.skip (d := 10) (by rfl) (by rfl) (by rfl) (by rfl) ?_
      refine WL.skip (d := 10) (by rfl) (by rfl) (by rfl) (by rfl) ?_
      refine WL.skip (d := 10) (by rfl) (by rfl) (by rfl) (by rfl) ?_
      refine WL.skip (d := 10) (by rfl) (by rfl) (by rfl) (by rfl) ?_
      refine WL.p (by rfl) (Yl.pickF (by rfl) (by rfl)) ?_
      refine WL.p (by rfl) (Yl.move (by rfl)) ?_
      refine WL.skip (d := 16) (by rfl) (by rfl) (by rfl) (by rfl) ?_
      refine WL.skip (d := 16) (by rfl) (by rfl) (by rfl) (by rfl) ?_
      refine WL.skip (d := 16) (by rfl) (by rfl) (by rfl) (by rfl) ?_
      refine WL.skip (d := 16) (by rfl) (by rfl) (by rfl) (by rfl) ?_
      refine WL.p (by rfl) (Yl.pickF (by rfl) (by rfl)) ?_
      refine WL.p (by rfl) (Yl.move (by rfl)) ?_
      refine WL.skip (d := 22) (by rfl) (by rfl) (by rfl) (by rfl) ?_
      refine WL.skip (d := 22) (by rfl) (by rfl) (by rfl) (by rfl) ?_
      refine WL.skip (d := 22) (by rfl) (by rfl) (by rfl) (by rfl) ?_
      refine WL.p (by rfl) (Yl.pickF (by rfl) (by rfl)) ?_
      refine WL.p (by rfl) (Yl.assign (by rfl)) ?_
      refine WL.next ?_
      refine WC.ret ?_
      refine At.thenret ?_
      refine fin1' rfl (by rfl) ?_
      refine RetP.mk hs ?_
      simp_all [TPolicy.is]
  ·
    replace h1 := not_eq_false h1
    refine WC.skipn ?_
    refine WC.seq ?_
    refine WL.p (by rfl) (Yl.fieldAddr fa37_1 (by rfl)) ?_
    refine WL.p (by rfl) (Yl.loadB sca35 (by rfl) hs (by repeat (first | exact List.mem_cons_self | apply List.mem_cons_of_mem)) (by rfl)) ?_
    refine WL.callp hs (by rfl) (Yc.func (by rfl) fn114) (c_spec_l9Names _ _ (Ph.old h_p.scripts hs)) ?_
    clear hs; intro w hs
    refine WL.p (by rfl) (Yl.move (by rfl)) ?_
    refine WL.split (d := 30) (by rfl) (fun h2 => ?_) (fun h2 => ?_)
    ·
      refine WL.run (d := 30) (by rfl) (by rfl) ?_
      refine WL.p (by rfl) (Yl.fieldAddr fa37_2 (by rfl)) ?_
      refine WL.run (d := 30) (by rfl) (by rfl) ?_
      refine WL.p (by rfl) (Yl.loadB sca35 (by rfl) hs (by repeat (first | exact List.mem_cons_self | apply List.mem_cons_of_mem)) (by rfl)) ?_
      refine WL.run (d := 30) (by rfl) (by rfl) ?_
      refine WL.callp hs (by rfl) (Yc.func (by rfl) fn114) (c_spec_l9Names _ _ (Ph.old h_p.styles hs)) ?_
      clear hs; intro w hs
      refine WL.p (by rfl) (Yl.pickT (by rfl) (by rfl)) ?_
      refine WL.p (by rfl) (Yl.move (by rfl)) ?_
      refine WL.split (d := 35) (by rfl) (fun h3 => ?_) (fun h3 => ?_)
      ·
        refine WL.run (d := 35) (by rfl) (by rfl) ?_
        refine WL.p (by rfl) (Yl.fieldAddr fa37_3 (by rfl)) ?_
        refine WL.run (d := 35) (by rfl) (by rfl) ?_
        refine WL.p (by rfl) (Yl.loadB sca35 (by rfl) hs (by repeat (first | exact List.mem_cons_self | apply List.mem_cons_of_mem)) (by rfl)) ?_
        refine WL.run (d := 35) (by rfl) (by rfl) ?_
        refine WL.callp hs (by rfl) (Yc.func (by rfl) fn114) (c_spec_l9Names _ _ (Ph.old h_p.images hs)) ?_
        clear hs; intro w hs
        refine WL.p (by rfl) (Yl.pickT (by rfl) (by rfl)) ?_
        refine WL.p (by rfl) (Yl.move (by rfl)) ?_
        refine WL.split (d := 40) (by rfl) (fun h4 => ?_) (fun h4 => ?_)
        ·
          refine WL.run (d := 40) (by rfl) (by rfl) ?_
          refine WL.p (by rfl) (Yl.fieldAddr fa37_4 (by rfl)) ?_
          refine WL.run (d := 40) (by rfl) (by rfl) ?_
          refine WL.p (by rfl) (Yl.loadB sca9 (by rfl) hs (by repeat (first | exact List.mem_cons_self | apply List.mem_cons_of_mem)) (by rfl)) ?_
          refine WL.run (d := 40) (by rfl) (by rfl) ?_
          refine WL.p (by rfl) (Yl.eqs (by rfl) (by rfl)) ?_
          refine WL.run (d := 40) (by rfl) (by rfl) ?_
          refine WL.p (by rfl) (Yl.move (by rfl)) ?_
          refine WL.split (d := 44) (by rfl) (fun h5 => ?_) (fun h5 => ?_)
          ·
            replace h5 := of_decide_eq_true h5
            refine WL.skip (d := 44) (by rfl) (by rfl) (by rfl) (by rfl) ?_
            refine WL.skip (d := 44) (by rfl) (by rfl) (by rfl) (by rfl) ?_
            refine WL.skip (d := 44) (by rfl) (by rfl) (by rfl) (by rfl) ?_
            refine WL.run (d := 40) (by rfl) (by rfl) ?_
            refine WL.p (by rfl) (Yl.pickT (by rfl) (by rfl)) ?_
            refine WL.p (by rfl) (Yl.pickT (by rfl) (by rfl)) ?_
            refine WL.p (by rfl) (Yl.assign (by rfl)) ?_
            refine WL.next ?_
            refine WC.ret ?_
            refine fin1' rfl (by rfl) ?_
            refine RetP.mk hs ?_
            simp_all [TPolicy.is]
          ·
            replace h5 := of_decide_eq_false h5
            refine WL.run (d := 44) (by rfl) (by rfl) ?_
            refine WL.p (by rfl) (Yl.fieldAddr fa37_4 (by rfl)) ?_
            refine WL.run (d := 44) (by rfl) (by rfl) ?_
            refine WL.p (by rfl) (Yl.loadB sca9 (by rfl) hs (by repeat (first | exact List.mem_cons_self | apply List.mem_cons_of_mem)) (by rfl)) ?_
            refine WL.run (d := 44) (by rfl) (by rfl) ?_
            refine WL.callp hs (by rfl) (Yc.func (by rfl) fn115) (c_spec_IsValue _ _ (Ph.old h_p.nonce hs)) ?_
            clear hs; intro w hs
            refine WL.run (d := 40) (by rfl) (by rfl) ?_
            refine WL.p (by rfl) (Yl.pickF (by rfl) (by rfl)) ?_
            refine WL.p (by rfl) (Yl.pickT (by rfl) (by rfl)) ?_
            refine WL.p (by rfl) (Yl.assign (by rfl)) ?_
            refine WL.next ?_
            refine WC.ret ?_
            refine fin1' rfl (by rfl) ?_
            refine RetP.mk hs ?_
            simp_all [TPolicy.is]
        ·
          refine WL.skip (d := 40) (by rfl) (by rfl) (by rfl) (by rfl) ?_
          refine WL.skip (d := 40) (by rfl) (by rfl) (by rfl) (by rfl) ?_
          refine WL.skip (d := 40) (by rfl) (by rfl) (by rfl) (by rfl) ?_
          refine WL.skip (d := 40) (by rfl) (by rfl) (by rfl) (by rfl) ?_
          refine WL.skipU (d := 44) (by rfl) (by rfl) (by rfl) ?_
          refine WL.skipU (d := 44) (by rfl) (by rfl) (by rfl) ?_
          refine WL.skipU (d := 44) (by rfl) (by rfl) (by rfl) ?_
          refine WL.skip (d := 40) (by rfl) (by rfl) (by rfl) (by rfl) ?_
          refine WL.p (by rfl) (Yl.pickF (by rfl) (by rfl)) ?_
          refine WL.p (by rfl) (Yl.assign (by rfl)) ?_
          refine WL.next ?_
          refine WC.ret ?_
          refine fin1' rfl (by rfl) ?_
          refine RetP.mk hs ?_
          simp_all [TPolicy.is]
      ·
        refine WL.skip (d := 35) (by rfl) (by rfl) (by rfl) (by rfl) ?_
        refine WL.skip (d := 35) (by rfl) (by rfl) (by rfl) (by rfl) ?_
        refine WL.skip (d := 35) (by rfl) (by rfl) (by rfl) (by rfl) ?_
        refine WL.p (by rfl) (Yl.pickF (by rfl) (by rfl)) ?_
        refine WL.p (by rfl) (Yl.move (by rfl)) ?_
        refine WL.skip (d := 40) (by rfl) (by rfl) (by rfl) (by rfl) ?_
        refine WL.skip (d := 40) (by rfl) (by rfl) (by rfl) (by rfl) ?_
        refine WL.skip (d := 40) (by rfl) (by rfl) (by rfl) (by rfl) ?_
        refine WL.skip (d := 40) (by rfl) (by rfl) (by rfl) (by rfl) ?_
        refine WL.skipU (d := 44) (by rfl) (by rfl) (by rfl) ?_
        refine WL.skipU (d := 44) (by rfl) (by rfl) (by rfl) ?_
        refine WL.skipU (d := 44) (by rfl) (by rfl) (by rfl) ?_
        refine WL.skip (d := 40) (by rfl) (by rfl) (by rfl) (by rfl) ?_
        refine WL.p (by rfl) (Yl.pickF (by rfl) (by rfl)) ?_
        refine WL.p (by rfl) (Yl.assign (by rfl)) ?_
        refine WL.next ?_
        refine WC.ret ?_
        refine fin1' rfl (by rfl) ?_
        refine RetP.mk hs ?_
        simp_all [TPolicy.is]
    ·
      refine WL.skip (d := 30) (by rfl) (by rfl) (by rfl) (by rfl) ?_
      refine WL.skip (d := 30) (by rfl) (by rfl) (by rfl) (by rfl) ?_
      refine WL.skip (d := 30) (by rfl) (by rfl) (by rfl) (by rfl) ?_
      refine WL.p (by rfl) (Yl.pickF (by rfl) (by rfl)) ?_
      refine WL.p (by rfl) (Yl.move (by rfl)) ?_
      refine WL.skip (d := 35) (by rfl) (by rfl) (by rfl) (by rfl) ?_
      refine WL.skip (d := 35) (by rfl) (by rfl) (by rfl) (by rfl) ?_
      refine WL.skip (d := 35) (by rfl) (by rfl) (by rfl) (by rfl) ?_
      refine WL.p (by rfl) (Yl.pickF (by rfl) (by rfl)) ?_
      refine WL.p (by rfl) (Yl.move (by rfl)) ?_
      refine WL.skip (d := 40) (by rfl) (by rfl) (by rfl) (by rfl) ?_
      refine WL.skip (d := 40) (by rfl) (by rfl) (by rfl) (by rfl) ?_
      refine WL.skip (d := 40) (by rfl) (by rfl) (by rfl) (by rfl) ?_
      refine WL.skip (d := 40) (by rfl) (by rfl) (by rfl) (by rfl) ?_
      refine WL.skipU (d := 44) (by rfl) (by rfl) (by rfl) ?_
      refine WL.skipU (d := 44) (by rfl) (by rfl) (by rfl) ?_
      refine WL.skipU (d := 44) (by rfl) (by rfl) (by rfl) ?_
      refine WL.skip (d := 40) (by rfl) (by rfl) (by rfl) (by rfl) ?_
      refine WL.p (by rfl) (Yl.pickF (by rfl) (by rfl)) ?_
      refine WL.p (by rfl) (Yl.assign (by rfl)) ?_
      refine WL.next ?_
      refine WC.ret ?_
      refine fin1' rfl (by rfl) ?_
      refine RetP.mk hs ?_
      simp_all [TPolicy.is]

theorem c_spec_l9Words (word : Str) (l : (Sl Str)) (w : World) (h_l : Ph.ok w l) (hb : word.length + strsz l.l ≤ 4194304) : Calls Tryd.prog 94 [S word, Sl.v l].toArray w (RetP w (S (wordsText word l.l))) := by
  have hw := h_l.lt
  refine enterN 20 Tryd.func94 rfl rfl rfl ?_
  have hs := Sat.start w
  refine WC.seq ?_
  refine WL.p (by rfl) (Yl.assign (by rfl)) ?_
  refine WL.next ?_
  refine WC.seq' ?_
  refine WC.seq ?_
  refine WL.p (by rfl) (Yl.assign (by rfl)) ?_
  refine WL.next ?_
  refine WC.block ?_
  refine WC.loopC (ι := Nat × Str) (fun ⟨k, s⟩ => l.l.length - k) (fun ⟨k, s⟩ => [(5, I (k : Int)), (0, S s)]) (fun _ => []) (fun ⟨k, s⟩ => k ≤ l.l.length ∧ s = wordsText word (l.l.take k)) [(1, _), (4, _)] (0, word) (hs) ⟨by rfl, by rfl, trivial⟩ ⟨by rfl, by rfl, trivial⟩ ?_ ?_
  ·
    exact ⟨Nat.zero_le _, by rw [List.take_zero, wordsText_nil]⟩
  clear hs; rintro ⟨k, s⟩ w ⟨hJ1, hJ2⟩ hs
  simp only [List.nil_append] at hs
  refine WC.seq' ?_
  refine WC.seq ?_
  refine WL.p (by rfl) (Yl.move (by rfl)) ?_
  refine WL.p (by rfl) (Yl.move (by rfl)) ?_
  refine WL.p (by rfl) (Yl.len_sl slu35 (by rfl)) ?_
  refine WL.p (by rfl) (Yl.lss (by rfl) (by rfl)) ?_
  refine WL.next ?_
  refine WC.condS (by rfl) (fun h1 => ?_) (fun h1 => ?_)
  ·
    replace h1 := of_decide_eq_true h1
    obtain ⟨d, hd⟩ := exists_get (l := l.l) (k := k) (by omega)
    have hsl := wordsText_len word (l.l.take k)
    have hsz := lsz_take List.length l.l k
    rw [← hJ2] at hsl
    have hdl := lsum_le (f := List.length) (List.mem_of_getElem? hd)
    simp only [strsz, lsz] at hb hsl
    try simp only [lsz] at hsz
    refine WC.skipn ?_
    refine WC.seq' ?_
    refine WC.block ?_
    refine WC.region ?_
    refine WL.p (by rfl) (Yl.move (by rfl)) ?_
    refine WL.p (by rfl) (Yl.cat (by rfl) (by rfl) (by simp only [List.length_append, List.length_cons, List.length_nil] at *; omega)) ?_
    refine WL.p (by rfl) (Yl.move (by rfl)) ?_
    refine WL.p (by rfl) (Yl.move (by rfl)) ?_
    refine WL.p (by rfl) (Yl.indexAddr slt35 (by rfl) (by rfl) (Ph.old h_l hs) (by rfl) (hd)) ?_
    refine WL.p (by rfl) (Yl.loadC0 sca9 (by rfl) (Sl.Ok.at_ (Ph.old h_l hs) (by assumption)).2 (by rfl)) ?_
    refine WL.p (by rfl) (Yl.cat (by rfl) (by rfl) (by simp only [List.length_append, List.length_cons, List.length_nil] at *; omega)) ?_
    refine WL.p (by rfl) (Yl.assign (by rfl)) ?_
    refine WL.nil ?_
    refine At.blocknormal ?_
    refine At.then_ ?_
    refine WC.region ?_
    refine WL.p (by rfl) (Yl.move (by rfl)) ?_
    refine WL.p (by rfl) (Yl.add (by rfl) (by rfl) (by omega)) ?_
    refine WL.p (by rfl) (Yl.assign (by rfl)) ?_
    refine WL.nil ?_
    refine At.roundC (k + 1, s ++ [32] ++ d) (hs.only (by repeat (first | exact Sel.nil | (apply Sel.cons; (repeat (first | exact Ext.here | apply Ext.there)))))) ⟨by rfl, by rfl, trivial⟩ ⟨by rfl, by rfl, trivial⟩ ?_ ?_
    ·
      show l.l.length - (k + 1) < l.l.length - k
      omega
    ·
      exact ⟨by omega, by rw [wordsText_snoc _ hd, hJ2]⟩
  ·
    replace h1 := of_decide_eq_false h1
    refine WC.exit ?_
    refine At.thenexit ?_
    refine At.thenexit ?_
    refine At.blockexit ?_
    refine At.then_ ?_
    refine WC.seq ?_
    refine WL.p (by rfl) (Yl.move (by rfl)) ?_
    refine WL.p (by rfl) (Yl.assign (by rfl)) ?_
    refine WL.next ?_
    refine WC.ret ?_
    refine fin1' rfl (by rfl) ?_
    refine RetP.mk hs ?_
    rw [hJ2, show k = l.l.length from by omega, List.take_length]

theorem c_spec_FormatPolicy (p : PPolicy) (w : World) (h_p : Ph.ok w p) (hb : p.lg.size ≤ 2097152) : Calls Tryd.prog 58 [.agg #[Bo p.set, Sl.v p.scripts, Sl.v p.styles, Sl.v p.images, S p.nonce]].toArray w (RetP w (S (fmtPolicy p.lg))) := by
  refine enterN 34 Tryd.func58 rfl rfl rfl ?_
  have hs := Sat.start w
  refine WC.seq ?_
  refine WL.r (by rfl) (Yr.box hs (by rfl) (by rfl)) ?_
  clear hs; rintro _ w ⟨b1, rfl, hb, hs⟩; clear hb
  refine WL.p (by rfl) (Yl.assign (by rfl)) ?_
  refine WL.next ?_
  refine WC.seq' ?_
  refine WC.seq ?_
  refine WL.p (by rfl) (Yl.loadAB agg37 (by rfl) hs (by repeat (first | exact List.mem_cons_self | apply List.mem_cons_of_mem)) (by rfl) (by rfl)) ?_
  refine WL.callp hs (by rfl) (Yc.func (by rfl) fn93) (c_spec_IsPolicy _ _ (Ph.old h_p hs)) ?_
  clear hs; intro w hs
  refine WL.p (by rfl) (Yl.not (by rfl)) ?_
  refine WL.p (by rfl) (Yl.move (by rfl)) ?_
  refine WL.split (d := 7) (by rfl) (fun h1 => ?_) (fun h1 => ?_)
  ·
    replace h1 := not_eq_true h1
    refine WL.skip (d := 7) (by rfl) (by rfl) (by rfl) (by rfl) ?_
    refine WL.skip (d := 7) (by rfl) (by rfl) (by rfl) (by rfl) ?_
    refine WL.skip (d := 7) (by rfl) (by rfl) (by rfl) (by rfl) ?_
    refine WL.p (by rfl) (Yl.pickT (by rfl) (by rfl)) ?_
    refine WL.next ?_
    refine WC.condT (by rfl) ?_
    refine WC.seq ?_
    refine WL.p (by rfl) (Yl.assign (by rfl)) ?_
    refine WL.next ?_
    refine WC.ret ?_
    refine At.thenret ?_
    refine fin1' rfl (by rfl) ?_
    refine RetP.mk hs ?_
    first
      | (simp [fmtPolicy, h1]; done)
      | (simp [fmtPolicy, h2]; done)
      | (simp [fmtPolicy, h1, h2, h3]; done)
  ·
    replace h1 := not_eq_false h1
    refine WL.run (d := 7) (by rfl) (by rfl) ?_
    refine WL.p (by rfl) (Yl.fieldAddr fa37_0 (by rfl)) ?_
    refine WL.run (d := 7) (by rfl) (by rfl) ?_
    refine WL.p (by rfl) (Yl.loadB sca4 (by rfl) hs (by repeat (first | exact List.mem_cons_self | apply List.mem_cons_of_mem)) (by rfl)) ?_
    refine WL.run (d := 7) (by rfl) (by rfl) ?_
    refine WL.p (by rfl) (Yl.not (by rfl)) ?_
    refine WL.p (by rfl) (Yl.pickF (by rfl) (by rfl)) ?_
    refine WL.next ?_
    refine WC.condS (by rfl) (fun h2 => ?_) (fun h2 => ?_)
    ·
      replace h2 := not_eq_true h2
      refine WC.seq ?_
      refine WL.p (by rfl) (Yl.assign (by rfl)) ?_
      refine WL.next ?_
      refine WC.ret ?_
      refine At.thenret ?_
      refine fin1' rfl (by rfl) ?_
      refine RetP.mk hs ?_
      first
        | (simp [fmtPolicy, h1]; done)
        | (simp [fmtPolicy, h2]; done)
        | (simp [fmtPolicy, h1, h2, h3]; done)
    ·
      replace h2 := not_eq_false h2
      refine WC.skipn ?_
      refine WC.quietn mixed (by kernel_rfl) hs ?_
      refine WQ.p (by rfl) (fun w hs => Yl.fieldAddr fa37_1 (by rfl)) ?_
      refine WQ.p (by rfl) (fun w hs => Yl.loadB sca35 (by rfl) hs (by repeat (first | exact List.mem_cons_self | apply List.mem_cons_of_mem)) (by rfl)) ?_
      refine WQ.callp (by rfl) (fun w => Yc.func (by rfl) fn94) (fun w hs => (c_spec_l9Words _ _ _ (Ph.old h_p.scripts hs) (by first | assumption | (simp only [TPolicy.size, PPolicy.lg, List.length_cons, List.length_nil] at *; omega)))) (fun _ _ hs hb => hs.ext hb) ?_
      refine WQ.p (by rfl) (fun w hs => Yl.cat (by rfl) (by rfl) (by have := wordsText_len [115, 99, 114, 105, 112, 116] p.scripts.l; have := wordsText_len [115, 116, 121, 108, 101] p.styles.l; have := wordsText_len [105, 109, 103] p.images.l; simp only [List.length_append, List.length_cons, List.length_nil, TPolicy.size, PPolicy.lg] at *; omega)) ?_
      refine WQ.p (by rfl) (fun w hs => Yl.fieldAddr fa37_2 (by rfl)) ?_
      refine WQ.p (by rfl) (fun w hs => Yl.loadB sca35 (by rfl) hs (by repeat (first | exact List.mem_cons_self | apply List.mem_cons_of_mem)) (by rfl)) ?_
      refine WQ.callp (by rfl) (fun w => Yc.func (by rfl) fn94) (fun w hs => (c_spec_l9Words _ _ _ (Ph.old h_p.styles hs) (by first | assumption | (simp only [TPolicy.size, PPolicy.lg, List.length_cons, List.length_nil] at *; omega)))) (fun _ _ hs hb => hs.ext hb) ?_
      refine WQ.p (by rfl) (fun w hs => Yl.cat (by rfl) (by rfl) (by have := wordsText_len [115, 99, 114, 105, 112, 116] p.scripts.l; have := wordsText_len [115, 116, 121, 108, 101] p.styles.l; have := wordsText_len [105, 109, 103] p.images.l; simp only [List.length_append, List.length_cons, List.length_nil, TPolicy.size, PPolicy.lg] at *; omega)) ?_
      refine WQ.p (by rfl) (fun w hs => Yl.cat (by rfl) (by rfl) (by have := wordsText_len [115, 99, 114, 105, 112, 116] p.scripts.l; have := wordsText_len [115, 116, 121, 108, 101] p.styles.l; have := wordsText_len [105, 109, 103] p.images.l; simp only [List.length_append, List.length_cons, List.length_nil, TPolicy.size, PPolicy.lg] at *; omega)) ?_
      refine WQ.p (by rfl) (fun w hs => Yl.fieldAddr fa37_3 (by rfl)) ?_
      refine WQ.p (by rfl) (fun w hs => Yl.loadB sca35 (by rfl) hs (by repeat (first | exact List.mem_cons_self | apply List.mem_cons_of_mem)) (by rfl)) ?_
      refine WQ.callp (by rfl) (fun w => Yc.func (by rfl) fn94) (fun w hs => (c_spec_l9Words _ _ _ (Ph.old h_p.images hs) (by first | assumption | (simp only [TPolicy.size, PPolicy.lg, List.length_cons, List.length_nil] at *; omega)))) (fun _ _ hs hb => hs.ext hb) ?_
      refine WQ.p (by rfl) (fun w hs => Yl.cat (by rfl) (by rfl) (by have := wordsText_len [115, 99, 114, 105, 112, 116] p.scripts.l; have := wordsText_len [115, 116, 121, 108, 101] p.styles.l; have := wordsText_len [105, 109, 103] p.images.l; simp only [List.length_append, List.length_cons, List.length_nil, TPolicy.size, PPolicy.lg] at *; omega)) ?_
      refine WQ.p (by rfl) (fun w hs => Yl.assign (by rfl)) ?_
      refine WQ.next ?_
      clear hs; intro w hs
      refine WC.seq' ?_
      refine WC.seq ?_
      refine WL.p (by rfl) (Yl.fieldAddr fa37_4 (by rfl)) ?_
      refine WL.p (by rfl) (Yl.loadB sca9 (by rfl) hs (by repeat (first | exact List.mem_cons_self | apply List.mem_cons_of_mem)) (by rfl)) ?_
      refine WL.p (by rfl) (Yl.nes (by rfl) (by rfl)) ?_
      refine WL.next ?_
      refine WC.condS (by rfl) (fun h3 => ?_) (fun h3 => ?_)
      ·
        replace h3 := not_eq_true h3
        replace h3 := of_decide_eq_false h3
        refine WC.region ?_
        refine WL.p (by rfl) (Yl.move (by rfl)) ?_
        refine WL.p (by rfl) (Yl.cat (by rfl) (by rfl) (by have := wordsText_len [115, 99, 114, 105, 112, 116] p.scripts.l; have := wordsText_len [115, 116, 121, 108, 101] p.styles.l; have := wordsText_len [105, 109, 103] p.images.l; simp only [List.length_append, List.length_cons, List.length_nil, TPolicy.size, PPolicy.lg] at *; omega)) ?_
        refine WL.p (by rfl) (Yl.fieldAddr fa37_4 (by rfl)) ?_
        refine WL.p (by rfl) (Yl.loadB sca9 (by rfl) hs (by repeat (first | exact List.mem_cons_self | apply List.mem_cons_of_mem)) (by rfl)) ?_
        refine WL.p (by rfl) (Yl.cat (by rfl) (by rfl) (by have := wordsText_len [115, 99, 114, 105, 112, 116] p.scripts.l; have := wordsText_len [115, 116, 121, 108, 101] p.styles.l; have := wordsText_len [105, 109, 103] p.images.l; simp only [List.length_append, List.length_cons, List.length_nil, TPolicy.size, PPolicy.lg] at *; omega)) ?_
        refine WL.p (by rfl) (Yl.assign (by rfl)) ?_
        refine WL.nil ?_
        refine At.then_ ?_
        refine WC.seq ?_
        refine WL.p (by rfl) (Yl.move (by rfl)) ?_
        refine WL.p (by rfl) (Yl.assign (by rfl)) ?_
        refine WL.next ?_
        refine WC.ret ?_
        refine fin1' rfl (by rfl) ?_
        refine RetP.mk hs ?_
        first
          | (simp [fmtPolicy, h1]; done)
          | (simp [fmtPolicy, h2]; done)
          | (simp [fmtPolicy, h1, h2, h3]; done)
      ·
        replace h3 := not_eq_false h3
        replace h3 := of_decide_eq_true h3
        refine WC.skipn ?_
        refine WC.seq ?_
        refine WL.p (by rfl) (Yl.move (by rfl)) ?_
        refine WL.p (by rfl) (Yl.assign (by rfl)) ?_
        refine WL.next ?_
        refine WC.ret ?_
        refine fin1' rfl (by rfl) ?_
        refine RetP.mk hs ?_
        first
          | (simp [fmtPolicy, h1]; done)
          | (simp [fmtPolicy, h2]; done)
          | (simp [fmtPolicy, h1, h2, h3]; done)

theorem c_spec_ParsePolicy (s : Str) (w : World)  (hb : s.length ≤ 1048576) : Calls Tryd.prog 20 [S s].toArray w (Ret w (fun v w' => ∃ x : PPolicy, v = .tuple #[.agg (Ph.enc x).toArray, Bo (policyIs s)] ∧ x.lg = policyOf s ∧ Fresh w x w')) := by
  refine enterN 52 Tryd.func20 rfl rfl rfl ?_
  have hs := Sat.start w
  refine WC.seq ?_
  refine WL.r (by rfl) (Yr.alloc hs zt37) ?_
  clear hs; rintro _ w ⟨b1, rfl, hb, hs⟩; clear hb
  refine WL.p (by rfl) (Yl.assign (by rfl)) ?_
  refine WL.next ?_
  refine WC.seq' ?_
  refine WC.seq ?_
  refine WL.p (by rfl) (Yl.move (by rfl)) ?_
  refine WL.p (by rfl) (Yl.eqs (by rfl) (by rfl)) ?_
  refine WL.next ?_
  refine WC.condS (by rfl) (fun h1 => ?_) (fun h1 => ?_)
  ·
    replace h1 := of_decide_eq_true h1
    refine WC.seq ?_
    refine WL.p (by rfl) (Yl.build bt37 (by rfl) (by repeat (first | exact Fill.nil | (apply Fill.cons; rfl; rfl; rfl; repeat (first | (apply SetAt.here; repeat (first | exact Over.nil | apply Over.cons)) | apply SetAt.there))))) ?_
    refine WL.s (Yr.storeB hs (by rfl) (by rfl) (by rfl) (by repeat (first | exact Repl.here | apply Repl.there)) (by repeat (first | (apply SetAt.here; repeat (first | exact Over.nil | apply Over.cons)) | apply SetAt.there)) (by rfl) (by exact szf37)) ?_
    clear hs; rintro _ w hs
    refine WL.p (by rfl) (Yl.assign (by rfl)) ?_
    refine WL.next ?_
    refine WC.ret ?_
    refine At.thenret ?_
    refine fin2c rfl agg37 (by rfl) (by rfl) hs (by repeat (first | exact List.mem_cons_self | apply List.mem_cons_of_mem)) (by rfl) ?_
    refine Ret.mk hs ?_
    have hb9 : policyIs s = true := policyIs_nil h1
    exact ⟨⟨false, ⟨[], none, 0⟩, ⟨[], none, 0⟩, ⟨[], none, 0⟩, []⟩, by rw [hb9]; rfl, (policyOf_no (.inl h1)).symm, ⟨⟨[], PPolicy.zown _, .nil, fun b h => by cases h⟩⟩⟩
  ·
    replace h1 := of_decide_eq_false h1
    refine WC.skipn ?_
    refine WC.seq ?_
    refine WL.p (by rfl) (Yl.move (by rfl)) ?_
    refine WL.call hs (by rfl) (Yc.func (by rfl) fn50) (c_spec_l5Split _ 59 _ (by first | assumption | omega | (simp only [lsz] at *; omega) | (simp only [lsz, strsz, TPolicy.size, TCache.size, TAddr.size, TRequest.size, TEntry.size, TResponse.size, TLine.size] at *; omega) | (simp only [lsz_map, TPage.size, TBuilder.size, TNode.size, TToken.size, TTokenizer.size, TServer.size, TFile.size, TNet.size, TCache.size, TSheet.size, strsz] at *; omega) | (simp only [lsz_map, TPage.size, TBuilder.size, TNode.size, TToken.size, TTokenizer.size, TServer.size, TFile.size, TNet.size, TCache.size, TSheet.size, strsz, lsz] at *; omega))) ?_
    have hs0 := hs; clear hs; intro v w hb hR hs; clear hs
    obtain ⟨x2, rfl, hx2, hf2⟩ := hR
    obtain ⟨F2, hs⟩ := hf2.sat hs0 hb; clear hs0 hf2
    have hle2 := Sl.Ok.le (hs.okow (x := x2) (F := F2) (by repeat (first | exact List.mem_cons_self | apply List.mem_cons_of_mem)))
    refine WL.p (by rfl) (Yl.assign (by rfl)) ?_
    refine WL.next ?_
    refine WC.seq' ?_
    refine WC.seq ?_
    refine WL.p (by rfl) (Yl.move (by rfl)) ?_
    refine WL.p (by rfl) (Yl.len_sl slu35 (by rfl)) ?_
    refine WL.p (by rfl) (Yl.lss (by rfl) (by rfl)) ?_
    refine WL.next ?_
    refine WC.condS (by rfl) (fun h2 => ?_) (fun h2 => ?_)
    ·
      replace h2 := of_decide_eq_true h2
      refine WC.seq ?_
      refine WL.p (by rfl) (Yl.build bt37 (by rfl) (by repeat (first | exact Fill.nil | (apply Fill.cons; rfl; rfl; rfl; repeat (first | (apply SetAt.here; repeat (first | exact Over.nil | apply Over.cons)) | apply SetAt.there))))) ?_
      refine WL.s (Yr.storeB hs (by rfl) (by rfl) (by rfl) (by repeat (first | exact Repl.here | apply Repl.there)) (by repeat (first | (apply SetAt.here; repeat (first | exact Over.nil | apply Over.cons)) | apply SetAt.there)) (by rfl) (by exact szf37)) ?_
      clear hs; rintro _ w hs
      refine WL.p (by rfl) (Yl.assign (by rfl)) ?_
      refine WL.next ?_
      refine WC.ret ?_
      refine At.thenret ?_
      refine fin2c rfl agg37 (by rfl) (by rfl) hs (by repeat (first | exact List.mem_cons_self | apply List.mem_cons_of_mem)) (by rfl) ?_
      refine Ret.mk hs ?_
      have hb9 : policyIs s = false := policyIs_short h1 (by rw [← show x2.l = splitC 59 s from hx2]; omega)
      exact ⟨⟨false, ⟨[], none, 0⟩, ⟨[], none, 0⟩, ⟨[], none, 0⟩, []⟩, by rw [hb9]; rfl, (policyOf_no (.inr hb9)).symm, ⟨⟨[], PPolicy.zown _, .nil, fun b h => by cases h⟩⟩⟩
    ·
      replace h2 := of_decide_eq_false h2
      have h39 := getD_len (s := s) (i := 3)
      rw [← show x2.l = splitC 59 s from hx2] at h39
      refine WC.skipn ?_
      refine WC.anyn mixed hs ?_
      clear hs; intro w hs
      refine WA.p (i := 0) (by rfl) (by kernel_rfl) (by kernel_rfl) (by kernel_rfl) (by rfl) (hs.only (by repeat (first | exact Sel.nil | (apply Sel.cons; (repeat (first | exact Ext.here | apply Ext.there)))))) (fun w hs => Yl.move (by rfl)) ?_
      refine WA.p (i := 1) (by rfl) (by kernel_rfl) (by kernel_rfl) (by kernel_rfl) (by rfl) (hs.only (by repeat (first | exact Sel.nil | (apply Sel.cons; (repeat (first | exact Ext.here | apply Ext.there)))))) (fun w hs => Yl.indexAddr (k := 0) slt35 (by rfl) (by rfl) (hs.okow (x := x2) (F := F2) (by repeat (first | exact List.mem_cons_self | apply List.mem_cons_of_mem))) (by rfl) ((getD_some (i := 0) (z := ([] : Str)) (by omega)))) ?_
      refine WA.p (i := 2) (by rfl) (by kernel_rfl) (by kernel_rfl) (by kernel_rfl) (by rfl) (hs.only (by repeat (first | exact Sel.nil | (apply Sel.cons; (repeat (first | exact Ext.here | apply Ext.there)))))) (fun w hs => Yl.loadC0 sca9 (by rfl) (Sl.Ok.at_ (hs.okow (x := x2) (F := F2) (by repeat (first | exact List.mem_cons_self | apply List.mem_cons_of_mem))) ((getD_some (i := 0) (z := ([] : Str)) (by omega)))).2 (by rfl)) ?_
      refine WA.p (i := 5) (by rfl) (by kernel_rfl) (by kernel_rfl) (by kernel_rfl) (by rfl) (hs.only (by repeat (first | exact Sel.nil | (apply Sel.cons; (repeat (first | exact Ext.here | apply Ext.there)))))) (fun w hs => Yl.move (by rfl)) ?_
      refine WA.p (i := 6) (by rfl) (by kernel_rfl) (by kernel_rfl) (by kernel_rfl) (by rfl) (hs.only (by repeat (first | exact Sel.nil | (apply Sel.cons; (repeat (first | exact Ext.here | apply Ext.there)))))) (fun w hs => Yl.indexAddr (k := 1) slt35 (by rfl) (by rfl) (hs.okow (x := x2) (F := F2) (by repeat (first | exact List.mem_cons_self | apply List.mem_cons_of_mem))) (by rfl) ((getD_some (i := 1) (z := ([] : Str)) (by omega)))) ?_
      refine WA.p (i := 7) (by rfl) (by kernel_rfl) (by kernel_rfl) (by kernel_rfl) (by rfl) (hs.only (by repeat (first | exact Sel.nil | (apply Sel.cons; (repeat (first | exact Ext.here | apply Ext.there)))))) (fun w hs => Yl.loadC0 sca9 (by rfl) (Sl.Ok.at_ (hs.okow (x := x2) (F := F2) (by repeat (first | exact List.mem_cons_self | apply List.mem_cons_of_mem))) ((getD_some (i := 1) (z := ([] : Str)) (by omega)))).2 (by rfl)) ?_
      refine WA.p (i := 10) (by rfl) (by kernel_rfl) (by kernel_rfl) (by kernel_rfl) (by rfl) (hs.only (by repeat (first | exact Sel.nil | (apply Sel.cons; (repeat (first | exact Ext.here | apply Ext.there)))))) (fun w hs => Yl.move (by rfl)) ?_
      refine WA.p (i := 11) (by rfl) (by kernel_rfl) (by kernel_rfl) (by kernel_rfl) (by rfl) (hs.only (by repeat (first | exact Sel.nil | (apply Sel.cons; (repeat (first | exact Ext.here | apply Ext.there)))))) (fun w hs => Yl.indexAddr (k := 2) slt35 (by rfl) (by rfl) (hs.okow (x := x2) (F := F2) (by repeat (first | exact List.mem_cons_self | apply List.mem_cons_of_mem))) (by rfl) ((getD_some (i := 2) (z := ([] : Str)) (by omega)))) ?_
      refine WA.p (i := 12) (by rfl) (by kernel_rfl) (by kernel_rfl) (by kernel_rfl) (by rfl) (hs.only (by repeat (first | exact Sel.nil | (apply Sel.cons; (repeat (first | exact Ext.here | apply Ext.there)))))) (fun w hs => Yl.loadC0 sca9 (by rfl) (Sl.Ok.at_ (hs.okow (x := x2) (F := F2) (by repeat (first | exact List.mem_cons_self | apply List.mem_cons_of_mem))) ((getD_some (i := 2) (z := ([] : Str)) (by omega)))).2 (by rfl)) ?_
      refine WA.two (i := 3) (j := 16) (by kernel_rfl) ?_ ?_
      ·
        refine WI.call2 (i := 3) hs (fun _ hs => hs.only (by repeat (first | exact Sel.nil | (apply Sel.cons; (repeat (first | exact Ext.here | apply Ext.there)))))) (by rfl) (by rfl) (Yc.func (by rfl) fn50) (c_spec_l5Split _ 32 _ (by first | (have := getD_len (s := s) (i := 0); rw [← show x2.l = splitC 59 s from hx2] at this; omega) | (have := getD_len (s := s) (i := 1); rw [← show x2.l = splitC 59 s from hx2] at this; omega) | (have := getD_len (s := s) (i := 2); rw [← show x2.l = splitC 59 s from hx2] at this; omega) | (have := getD_len (s := s) (i := 3); rw [← show x2.l = splitC 59 s from hx2] at this; omega))) ?_
        have hs0 := hs; clear hs; intro v w hb hR hs; clear hs
        obtain ⟨x3, rfl, hx3, hf3⟩ := hR
        obtain ⟨F3, hs⟩ := hf3.sat hs0 hb; clear hs0 hf3
        have hle3 := Sl.Ok.le (hs.okow (x := x3) (F := F3) (by repeat (first | exact List.mem_cons_self | apply List.mem_cons_of_mem)))
        refine WA.p (i := 4) (by rfl) (by kernel_rfl) (by kernel_rfl) (by kernel_rfl) (by rfl) (hs.only (by repeat (first | exact Sel.nil | (apply Sel.cons; (repeat (first | exact Ext.here | apply Ext.there)))))) (fun w hs => Yl.slice_sl (s := x3) (l := 1) (h := x3.l.length) slt35 (by rfl) hle3 (by exact ⟨_, by rfl⟩) (by exact rfl) (by rw [hx3]; exact List.length_pos_iff.2 (splitC_ne _ _)) (by exact Nat.le_refl _)) ?_
        refine WA.two (i := 8) (j := 16) (by kernel_rfl) ?_ ?_
        ·
          refine WI.call2 (i := 8) hs (fun _ hs => hs.only (by repeat (first | exact Sel.nil | (apply Sel.cons; (repeat (first | exact Ext.here | apply Ext.there)))))) (by rfl) (by rfl) (Yc.func (by rfl) fn50) (c_spec_l5Split _ 32 _ (by first | (have := getD_len (s := s) (i := 0); rw [← show x2.l = splitC 59 s from hx2] at this; omega) | (have := getD_len (s := s) (i := 1); rw [← show x2.l = splitC 59 s from hx2] at this; omega) | (have := getD_len (s := s) (i := 2); rw [← show x2.l = splitC 59 s from hx2] at this; omega) | (have := getD_len (s := s) (i := 3); rw [← show x2.l = splitC 59 s from hx2] at this; omega))) ?_
          have hs0 := hs; clear hs; intro v w hb hR hs; clear hs
          obtain ⟨x4, rfl, hx4, hf4⟩ := hR
          obtain ⟨F4, hs⟩ := hf4.sat hs0 hb; clear hs0 hf4
          have hle4 := Sl.Ok.le (hs.okow (x := x4) (F := F4) (by repeat (first | exact List.mem_cons_self | apply List.mem_cons_of_mem)))
          refine WA.p (i := 9) (by rfl) (by kernel_rfl) (by kernel_rfl) (by kernel_rfl) (by rfl) (hs.only (by repeat (first | exact Sel.nil | (apply Sel.cons; (repeat (first | exact Ext.here | apply Ext.there)))))) (fun w hs => Yl.slice_sl (s := x4) (l := 1) (h := x4.l.length) slt35 (by rfl) hle4 (by exact ⟨_, by rfl⟩) (by exact rfl) (by rw [hx4]; exact List.length_pos_iff.2 (splitC_ne _ _)) (by exact Nat.le_refl _)) ?_
          refine WA.two (i := 13) (j := 16) (by kernel_rfl) ?_ ?_
          ·
            refine WI.call2 (i := 13) hs (fun _ hs => hs.only (by repeat (first | exact Sel.nil | (apply Sel.cons; (repeat (first | exact Ext.here | apply Ext.there)))))) (by rfl) (by rfl) (Yc.func (by rfl) fn50) (c_spec_l5Split _ 32 _ (by first | (have := getD_len (s := s) (i := 0); rw [← show x2.l = splitC 59 s from hx2] at this; omega) | (have := getD_len (s := s) (i := 1); rw [← show x2.l = splitC 59 s from hx2] at this; omega) | (have := getD_len (s := s) (i := 2); rw [← show x2.l = splitC 59 s from hx2] at this; omega) | (have := getD_len (s := s) (i := 3); rw [← show x2.l = splitC 59 s from hx2] at this; omega))) ?_
            have hs0 := hs; clear hs; intro v w hb hR hs; clear hs
            obtain ⟨x5, rfl, hx5, hf5⟩ := hR
            obtain ⟨F5, hs⟩ := hf5.sat hs0 hb; clear hs0 hf5
            have hle5 := Sl.Ok.le (hs.okow (x := x5) (F := F5) (by repeat (first | exact List.mem_cons_self | apply List.mem_cons_of_mem)))
            refine WA.p (i := 14) (by rfl) (by kernel_rfl) (by kernel_rfl) (by kernel_rfl) (by rfl) (hs.only (by repeat (first | exact Sel.nil | (apply Sel.cons; (repeat (first | exact Ext.here | apply Ext.there)))))) (fun w hs => Yl.slice_sl (s := x5) (l := 1) (h := x5.l.length) slt35 (by rfl) hle5 (by exact ⟨_, by rfl⟩) (by exact rfl) (by rw [hx5]; exact List.length_pos_iff.2 (splitC_ne _ _)) (by exact Nat.le_refl _)) ?_
            refine WA.p (i := 15) (by rfl) (by kernel_rfl) (by kernel_rfl) (by kernel_rfl) (by rfl) (hs.only (by repeat (first | exact Sel.nil | (apply Sel.cons; (repeat (first | exact Ext.here | apply Ext.there)))))) (fun w hs => Yl.build bt37 (by rfl) (by repeat (first | exact Fill.nil | (apply Fill.cons; rfl; rfl; rfl; repeat (first | (apply SetAt.here; repeat (first | exact Over.nil | apply Over.cons)) | apply SetAt.there))))) ?_
            refine WA.r (i := 16) (by kernel_rfl) (by rfl) (by rfl) (Yr.alloc hs zt37) (by rintro _ w ⟨b6, rfl, hb, hs⟩; exact hs.only (by repeat (first | exact Sel.nil | (apply Sel.cons; (repeat (first | exact Ext.here | apply Ext.there)))))) ?_
            clear hs; rintro _ w ⟨b6, rfl, hb, hs⟩; clear hb
            refine WA.s (i := 17) (by kernel_rfl) (by rfl) (Yr.storeB hs (by rfl) (by rfl) (by rfl) (by repeat (first | exact Repl.here | apply Repl.there)) (by repeat (first | (apply SetAt.here; repeat (first | exact Over.nil | apply Over.cons)) | apply SetAt.there)) (by rfl) (by exact szf37)) (by rintro _ w hs; exact hs.only (by repeat (first | exact Sel.nil | (apply Sel.cons; (repeat (first | exact Ext.here | apply Ext.there)))))) ?_
            clear hs; rintro _ w hs
            refine WA.donen (by kernel_rfl) ?_
            refine WC.seq' ?_
            refine WC.seq ?_
            refine WL.p (by rfl) (Yl.move (by rfl)) ?_
            refine WL.p (by rfl) (Yl.len_sl slu35 (by rfl)) ?_
            refine WL.p (by rfl) (Yl.gtr (by rfl) (by rfl)) ?_
            refine WL.p (by rfl) (Yl.move (by rfl)) ?_
            refine WL.split (d := 34) (by rfl) (fun h3 => ?_) (fun h3 => ?_)
            ·
              replace h3 := of_decide_eq_true h3
              refine WL.run (d := 34) (by rfl) (by rfl) ?_
              refine WL.p (by rfl) (Yl.move (by rfl)) ?_
              refine WL.run (d := 34) (by rfl) (by rfl) ?_
              refine WL.p (by rfl) (Yl.indexAddr (k := 3) slt35 (by rfl) (by rfl) (hs.okow (x := x2) (F := F2) (by repeat (first | exact List.mem_cons_self | apply List.mem_cons_of_mem))) (by rfl) ((getD_some (i := 3) (z := ([] : Str)) (by omega)))) ?_
              refine WL.run (d := 34) (by rfl) (by rfl) ?_
              refine WL.p (by rfl) (Yl.loadC0 sca9 (by rfl) (Sl.Ok.at_ (hs.okow (x := x2) (F := F2) (by repeat (first | exact List.mem_cons_self | apply List.mem_cons_of_mem))) ((getD_some (i := 3) (z := ([] : Str)) (by omega)))).2 (by rfl)) ?_
              refine WL.run (d := 34) (by rfl) (by rfl) ?_
              refine WL.p (by rfl) (Yl.len_str str9 (by rfl)) ?_
              refine WL.run (d := 34) (by rfl) (by rfl) ?_
              refine WL.p (by rfl) (Yl.gtr (by rfl) (by rfl)) ?_
              refine WL.p (by rfl) (Yl.pickT (by rfl) (by rfl)) ?_
              refine WL.next ?_
              refine WC.condS (by rfl) (fun h4 => ?_) (fun h4 => ?_)
              ·
                replace h4 := of_decide_eq_true h4
                refine WC.region ?_
                refine WL.p (by rfl) (Yl.move (by rfl)) ?_
                refine WL.p (by rfl) (Yl.indexAddr (k := 3) slt35 (by rfl) (by rfl) (hs.okow (x := x2) (F := F2) (by repeat (first | exact List.mem_cons_self | apply List.mem_cons_of_mem))) (by rfl) ((getD_some (i := 3) (z := ([] : Str)) (by omega)))) ?_
                refine WL.p (by rfl) (Yl.loadC0 sca9 (by rfl) (Sl.Ok.at_ (hs.okow (x := x2) (F := F2) (by repeat (first | exact List.mem_cons_self | apply List.mem_cons_of_mem))) ((getD_some (i := 3) (z := ([] : Str)) (by omega)))).2 (by rfl)) ?_
                refine WL.p (by rfl) (Yl.slice_str (l := 6) str9 (by rfl) (by exact ⟨_, by rfl⟩) (by exact rfl) (by omega) (by omega)) ?_
                refine WL.p (by rfl) (Yl.fieldAddr fa37_4 (by rfl)) ?_
                refine WL.s (Yr.storeB hs (by rfl) (by rfl) (by rfl) (by repeat (first | exact Repl.here | apply Repl.there)) (by repeat (first | (apply SetAt.here; repeat (first | exact Over.nil | apply Over.cons)) | apply SetAt.there)) (by rfl) (by exact szf9)) ?_
                clear hs; rintro _ w hs
                refine WL.nil ?_
                refine At.then_ ?_
                refine WC.seq' ?_
                refine WC.seq ?_
                refine WL.p (by rfl) (Yl.loadAB agg37 (by rfl) hs (by repeat (first | exact List.mem_cons_self | apply List.mem_cons_of_mem)) (by rfl) (by rfl)) ?_
                have hpl9 : PPolicy.lg (⟨true, (x3.cut 1 x3.l.length), (x4.cut 1 x4.l.length), (x5.cut 1 x5.l.length), (((x2.l.getD 3 []).drop 6).take ((x2.l.getD 3 []).length - 6))⟩ : PPolicy) = polS s := by
                  have e2 : x2.l = splitC 59 s := hx2
                  have g0 : x3.l = splitC 32 ((splitC 59 s).getD 0 []) := by rw [← e2]; exact hx3
                  have g1 : x4.l = splitC 32 ((splitC 59 s).getD 1 []) := by rw [← e2]; exact hx4
                  have g2 : x5.l = splitC 32 ((splitC 59 s).getD 2 []) := by rw [← e2]; exact hx5
                  have c0 : (x3.cut 1 x3.l.length).l = (splitC 32 ((splitC 59 s).getD 0 [])).tail := by rw [Sl.cut_full, g0, List.drop_one]
                  have c1 : (x4.cut 1 x4.l.length).l = (splitC 32 ((splitC 59 s).getD 1 [])).tail := by rw [Sl.cut_full, g1, List.drop_one]
                  have c2 : (x5.cut 1 x5.l.length).l = (splitC 32 ((splitC 59 s).getD 2 [])).tail := by rw [Sl.cut_full, g2, List.drop_one]
                  simp only [PPolicy.lg, polS, polOf, c0, c1, c2, TPolicy.mk.injEq, true_and]
                  rw [← e2]
                  first
                    | (rw [if_neg (show ¬ 3 < x2.l.length from fun h => by omega)]; done)
                    | (rw [if_pos (show 3 < x2.l.length from Int.ofNat_lt.1 (by omega))]; done)
                    | (rw [if_pos (show 3 < x2.l.length from Int.ofNat_lt.1 (by omega))]
                       simp only [nonceS, nonceI]
                       first
                         | (rfl; done)
                         | (rw [if_neg (by omega)]; done)
                         | (rw [if_pos (by omega), List.take_of_length_le (by simp)]; done)
                         | (rw [if_pos (by omega)]; done))
                refine WL.callp hs (by rfl) (Yc.func (by rfl) fn58) (c_spec_FormatPolicy (⟨true, (x3.cut 1 x3.l.length), (x4.cut 1 x4.l.length), (x5.cut 1 x5.l.length), (((x2.l.getD 3 []).drop 6).take ((x2.l.getD 3 []).length - 6))⟩ : PPolicy) _ ⟨trivial, (Sl.Ok.cut (hs.okow (x := x3) (F := F3) (by repeat (first | exact List.mem_cons_self | apply List.mem_cons_of_mem))) (by rw [hx3]; exact List.length_pos_iff.2 (splitC_ne _ _)) (by exact Nat.le_refl _)), (Sl.Ok.cut (hs.okow (x := x4) (F := F4) (by repeat (first | exact List.mem_cons_self | apply List.mem_cons_of_mem))) (by rw [hx4]; exact List.length_pos_iff.2 (splitC_ne _ _)) (by exact Nat.le_refl _)), (Sl.Ok.cut (hs.okow (x := x5) (F := F5) (by repeat (first | exact List.mem_cons_self | apply List.mem_cons_of_mem))) (by rw [hx5]; exact List.length_pos_iff.2 (splitC_ne _ _)) (by exact Nat.le_refl _)), (by show WfS _; unfold WfS; simp only [List.length_take, List.length_drop]; omega)⟩ (by rw [hpl9]; have := polS_size (s := s) (by rw [← show x2.l = splitC 59 s from hx2]; omega); omega)) ?_
                clear hs; intro w hs
                refine WL.p (by rfl) (Yl.move (by rfl)) ?_
                refine WL.p (by rfl) (Yl.nes (by rfl) (by rfl)) ?_
                refine WL.next ?_
                refine WC.condS (by rfl) (fun h5 => ?_) (fun h5 => ?_)
                ·
                  replace h5 := not_eq_true h5
                  replace h5 := of_decide_eq_false h5
                  refine WC.seq ?_
                  refine WL.p (by rfl) (Yl.build bt37 (by rfl) (by repeat (first | exact Fill.nil | (apply Fill.cons; rfl; rfl; rfl; repeat (first | (apply SetAt.here; repeat (first | exact Over.nil | apply Over.cons)) | apply SetAt.there))))) ?_
                  refine WL.s (Yr.storeB hs (by rfl) (by rfl) (by rfl) (by repeat (first | exact Repl.here | apply Repl.there)) (by repeat (first | (apply SetAt.here; repeat (first | exact Over.nil | apply Over.cons)) | apply SetAt.there)) (by rfl) (by exact szf37)) ?_
                  clear hs; rintro _ w hs
                  refine WL.p (by rfl) (Yl.assign (by rfl)) ?_
                  refine WL.next ?_
                  refine WC.ret ?_
                  refine At.thenret ?_
                  refine fin2c rfl agg37 (by rfl) (by rfl) hs (by repeat (first | exact List.mem_cons_self | apply List.mem_cons_of_mem)) (by rfl) ?_
                  refine Ret.mk hs ?_
                  rw [hpl9] at h5
                  have hb9 : policyIs s = false := policyIs_bad h1 h5
                  exact ⟨⟨false, ⟨[], none, 0⟩, ⟨[], none, 0⟩, ⟨[], none, 0⟩, []⟩, by rw [hb9]; rfl, (policyOf_no (.inr hb9)).symm, ⟨⟨[], PPolicy.zown _, .nil, fun b h => by cases h⟩⟩⟩
                ·
                  replace h5 := not_eq_false h5
                  replace h5 := of_decide_eq_true h5
                  refine WC.skipn ?_
                  refine WC.seq ?_
                  refine WL.p (by rfl) (Yl.loadAB agg37 (by rfl) hs (by repeat (first | exact List.mem_cons_self | apply List.mem_cons_of_mem)) (by rfl) (by rfl)) ?_
                  refine WL.s (Yr.storeB hs (by rfl) (by rfl) (by rfl) (by repeat (first | exact Repl.here | apply Repl.there)) (by repeat (first | (apply SetAt.here; repeat (first | exact Over.nil | apply Over.cons)) | apply SetAt.there)) (by rfl) (by exact szf37)) ?_
                  clear hs; rintro _ w hs
                  refine WL.p (by rfl) (Yl.assign (by rfl)) ?_
                  refine WL.next ?_
                  refine WC.ret ?_
                  refine fin2c rfl agg37 (by rfl) (by rfl) hs (by repeat (first | exact List.mem_cons_self | apply List.mem_cons_of_mem)) (by rfl) ?_
                  refine Ret.mk hs ?_
                  rw [hpl9] at h5
                  have hq9 : x2.l = splitC 59 s := hx2
                  have h49 : 3 ≤ (splitC 59 s).length := by rw [← hq9]; omega
                  have hb9 : policyIs s = true := policyIs_good h5 h49
                  obtain ⟨G90, hs⟩ := Sat.cutow (lo := 1) (hi := x3.l.length) (hs.sel (D := [ow x3 F3]) (by repeat (first | exact Sel.nil | (apply Sel.cons; (repeat (first | exact Ext.here | apply Ext.there)))))) (by rw [hx3]; exact List.length_pos_iff.2 (splitC_ne _ _)) (Nat.le_refl _)
                  obtain ⟨G91, hs⟩ := Sat.cutow (lo := 1) (hi := x4.l.length) (hs.sel (D := [ow x4 F4]) (by repeat (first | exact Sel.nil | (apply Sel.cons; (repeat (first | exact Ext.here | apply Ext.there)))))) (by rw [hx4]; exact List.length_pos_iff.2 (splitC_ne _ _)) (Nat.le_refl _)
                  obtain ⟨G92, hs⟩ := Sat.cutow (lo := 1) (hi := x5.l.length) (hs.sel (D := [ow x5 F5]) (by repeat (first | exact Sel.nil | (apply Sel.cons; (repeat (first | exact Ext.here | apply Ext.there)))))) (by rw [hx5]; exact List.length_pos_iff.2 (splitC_ne _ _)) (Nat.le_refl _)
                  refine ⟨(⟨true, (x3.cut 1 x3.l.length), (x4.cut 1 x4.l.length), (x5.cut 1 x5.l.length), (((x2.l.getD 3 []).drop 6).take ((x2.l.getD 3 []).length - 6))⟩ : PPolicy), by rw [hb9]; rfl, hpl9.trans (policyOf_good h1 hb9).symm, ?_⟩
                  exact (PPolicy.join _ (hs.only (D := [ow (x3.cut 1 x3.l.length) G90, ow (x4.cut 1 x4.l.length) G91, ow (x5.cut 1 x5.l.length) G92]) (by repeat (first | exact Sel.nil | (apply Sel.cons; (repeat (first | exact Ext.here | apply Ext.there)))))) trivial (by show WfS _; unfold WfS; first | (simp only [List.length_take, List.length_drop]; omega) | simp)).fresh List.mem_cons_self
              ·
                replace h4 := of_decide_eq_false h4
                refine WC.skipn ?_
                refine WC.seq' ?_
                refine WC.seq ?_
                refine WL.p (by rfl) (Yl.loadAB agg37 (by rfl) hs (by repeat (first | exact List.mem_cons_self | apply List.mem_cons_of_mem)) (by rfl) (by rfl)) ?_
                have hpl9 : PPolicy.lg (⟨true, (x3.cut 1 x3.l.length), (x4.cut 1 x4.l.length), (x5.cut 1 x5.l.length), ([] : Str)⟩ : PPolicy) = polS s := by
                  have e2 : x2.l = splitC 59 s := hx2
                  have g0 : x3.l = splitC 32 ((splitC 59 s).getD 0 []) := by rw [← e2]; exact hx3
                  have g1 : x4.l = splitC 32 ((splitC 59 s).getD 1 []) := by rw [← e2]; exact hx4
                  have g2 : x5.l = splitC 32 ((splitC 59 s).getD 2 []) := by rw [← e2]; exact hx5
                  have c0 : (x3.cut 1 x3.l.length).l = (splitC 32 ((splitC 59 s).getD 0 [])).tail := by rw [Sl.cut_full, g0, List.drop_one]
                  have c1 : (x4.cut 1 x4.l.length).l = (splitC 32 ((splitC 59 s).getD 1 [])).tail := by rw [Sl.cut_full, g1, List.drop_one]
                  have c2 : (x5.cut 1 x5.l.length).l = (splitC 32 ((splitC 59 s).getD 2 [])).tail := by rw [Sl.cut_full, g2, List.drop_one]
                  simp only [PPolicy.lg, polS, polOf, c0, c1, c2, TPolicy.mk.injEq, true_and]
                  rw [← e2]
                  first
                    | (rw [if_neg (show ¬ 3 < x2.l.length from fun h => by omega)]; done)
                    | (rw [if_pos (show 3 < x2.l.length from Int.ofNat_lt.1 (by omega))]; done)
                    | (rw [if_pos (show 3 < x2.l.length from Int.ofNat_lt.1 (by omega))]
                       simp only [nonceS, nonceI]
                       first
                         | (rfl; done)
                         | (rw [if_neg (by omega)]; done)
                         | (rw [if_pos (by omega), List.take_of_length_le (by simp)]; done)
                         | (rw [if_pos (by omega)]; done))
                refine WL.callp hs (by rfl) (Yc.func (by rfl) fn58) (c_spec_FormatPolicy (⟨true, (x3.cut 1 x3.l.length), (x4.cut 1 x4.l.length), (x5.cut 1 x5.l.length), ([] : Str)⟩ : PPolicy) _ ⟨trivial, (Sl.Ok.cut (hs.okow (x := x3) (F := F3) (by repeat (first | exact List.mem_cons_self | apply List.mem_cons_of_mem))) (by rw [hx3]; exact List.length_pos_iff.2 (splitC_ne _ _)) (by exact Nat.le_refl _)), (Sl.Ok.cut (hs.okow (x := x4) (F := F4) (by repeat (first | exact List.mem_cons_self | apply List.mem_cons_of_mem))) (by rw [hx4]; exact List.length_pos_iff.2 (splitC_ne _ _)) (by exact Nat.le_refl _)), (Sl.Ok.cut (hs.okow (x := x5) (F := F5) (by repeat (first | exact List.mem_cons_self | apply List.mem_cons_of_mem))) (by rw [hx5]; exact List.length_pos_iff.2 (splitC_ne _ _)) (by exact Nat.le_refl _)), (show WfS [] from Nat.zero_le _)⟩ (by rw [hpl9]; have := polS_size (s := s) (by rw [← show x2.l = splitC 59 s from hx2]; omega); omega)) ?_
                clear hs; intro w hs
                refine WL.p (by rfl) (Yl.move (by rfl)) ?_
                refine WL.p (by rfl) (Yl.nes (by rfl) (by rfl)) ?_
                refine WL.next ?_
                refine WC.condS (by rfl) (fun h5 => ?_) (fun h5 => ?_)
                ·
                  replace h5 := not_eq_true h5
                  replace h5 := of_decide_eq_false h5
                  refine WC.seq ?_
                  refine WL.p (by rfl) (Yl.build bt37 (by rfl) (by repeat (first | exact Fill.nil | (apply Fill.cons; rfl; rfl; rfl; repeat (first | (apply SetAt.here; repeat (first | exact Over.nil | apply Over.cons)) | apply SetAt.there))))) ?_
                  refine WL.s (Yr.storeB hs (by rfl) (by rfl) (by rfl) (by repeat (first | exact Repl.here | apply Repl.there)) (by repeat (first | (apply SetAt.here; repeat (first | exact Over.nil | apply Over.cons)) | apply SetAt.there)) (by rfl) (by exact szf37)) ?_
                  clear hs; rintro _ w hs
                  refine WL.p (by rfl) (Yl.assign (by rfl)) ?_
                  refine WL.next ?_
                  refine WC.ret ?_
                  refine At.thenret ?_
                  refine fin2c rfl agg37 (by rfl) (by rfl) hs (by repeat (first | exact List.mem_cons_self | apply List.mem_cons_of_mem)) (by rfl) ?_
                  refine Ret.mk hs ?_
                  rw [hpl9] at h5
                  have hb9 : policyIs s = false := policyIs_bad h1 h5
                  exact ⟨⟨false, ⟨[], none, 0⟩, ⟨[], none, 0⟩, ⟨[], none, 0⟩, []⟩, by rw [hb9]; rfl, (policyOf_no (.inr hb9)).symm, ⟨⟨[], PPolicy.zown _, .nil, fun b h => by cases h⟩⟩⟩
                ·
                  replace h5 := not_eq_false h5
                  replace h5 := of_decide_eq_true h5
                  refine WC.skipn ?_
                  refine WC.seq ?_
                  refine WL.p (by rfl) (Yl.loadAB agg37 (by rfl) hs (by repeat (first | exact List.mem_cons_self | apply List.mem_cons_of_mem)) (by rfl) (by rfl)) ?_
                  refine WL.s (Yr.storeB hs (by rfl) (by rfl) (by rfl) (by repeat (first | exact Repl.here | apply Repl.there)) (by repeat (first | (apply SetAt.here; repeat (first | exact Over.nil | apply Over.cons)) | apply SetAt.there)) (by rfl) (by exact szf37)) ?_
                  clear hs; rintro _ w hs
                  refine WL.p (by rfl) (Yl.assign (by rfl)) ?_
                  refine WL.next ?_
                  refine WC.ret ?_
                  refine fin2c rfl agg37 (by rfl) (by rfl) hs (by repeat (first | exact List.mem_cons_self | apply List.mem_cons_of_mem)) (by rfl) ?_
                  refine Ret.mk hs ?_
                  rw [hpl9] at h5
                  have hq9 : x2.l = splitC 59 s := hx2
                  have h49 : 3 ≤ (splitC 59 s).length := by rw [← hq9]; omega
                  have hb9 : policyIs s = true := policyIs_good h5 h49
                  obtain ⟨G90, hs⟩ := Sat.cutow (lo := 1) (hi := x3.l.length) (hs.sel (D := [ow x3 F3]) (by repeat (first | exact Sel.nil | (apply Sel.cons; (repeat (first | exact Ext.here | apply Ext.there)))))) (by rw [hx3]; exact List.length_pos_iff.2 (splitC_ne _ _)) (Nat.le_refl _)
                  obtain ⟨G91, hs⟩ := Sat.cutow (lo := 1) (hi := x4.l.length) (hs.sel (D := [ow x4 F4]) (by repeat (first | exact Sel.nil | (apply Sel.cons; (repeat (first | exact Ext.here | apply Ext.there)))))) (by rw [hx4]; exact List.length_pos_iff.2 (splitC_ne _ _)) (Nat.le_refl _)
                  obtain ⟨G92, hs⟩ := Sat.cutow (lo := 1) (hi := x5.l.length) (hs.sel (D := [ow x5 F5]) (by repeat (first | exact Sel.nil | (apply Sel.cons; (repeat (first | exact Ext.here | apply Ext.there)))))) (by rw [hx5]; exact List.length_pos_iff.2 (splitC_ne _ _)) (Nat.le_refl _)
                  refine ⟨(⟨true, (x3.cut 1 x3.l.length), (x4.cut 1 x4.l.length), (x5.cut 1 x5.l.length), ([] : Str)⟩ : PPolicy), by rw [hb9]; rfl, hpl9.trans (policyOf_good h1 hb9).symm, ?_⟩
                  exact (PPolicy.join _ (hs.only (D := [ow (x3.cut 1 x3.l.length) G90, ow (x4.cut 1 x4.l.length) G91, ow (x5.cut 1 x5.l.length) G92]) (by repeat (first | exact Sel.nil | (apply Sel.cons; (repeat (first | exact Ext.here | apply Ext.there)))))) trivial (by show WfS _; unfold WfS; first | (simp only [List.length_take, List.length_drop]; omega) | simp)).fresh List.mem_cons_self
            ·
              replace h3 := of_decide_eq_false h3
              refine WL.skip (d := 34) (by rfl) (by rfl) (by rfl) (by rfl) ?_
              refine WL.skip (d := 34) (by rfl) (by rfl) (by rfl) (by rfl) ?_
              refine WL.skip (d := 34) (by rfl) (by rfl) (by rfl) (by rfl) ?_
              refine WL.skip (d := 34) (by rfl) (by rfl) (by rfl) (by rfl) ?_
              refine WL.skip (d := 34) (by rfl) (by rfl) (by rfl) (by rfl) ?_
              refine WL.p (by rfl) (Yl.pickF (by rfl) (by rfl)) ?_
              refine WL.next ?_
              refine WC.condF (by rfl) ?_
              refine WC.skipn ?_
              refine WC.seq' ?_
              refine WC.seq ?_
              refine WL.p (by rfl) (Yl.loadAB agg37 (by rfl) hs (by repeat (first | exact List.mem_cons_self | apply List.mem_cons_of_mem)) (by rfl) (by rfl)) ?_
              have hpl9 : PPolicy.lg (⟨true, (x3.cut 1 x3.l.length), (x4.cut 1 x4.l.length), (x5.cut 1 x5.l.length), ([] : Str)⟩ : PPolicy) = polS s := by
                have e2 : x2.l = splitC 59 s := hx2
                have g0 : x3.l = splitC 32 ((splitC 59 s).getD 0 []) := by rw [← e2]; exact hx3
                have g1 : x4.l = splitC 32 ((splitC 59 s).getD 1 []) := by rw [← e2]; exact hx4
                have g2 : x5.l = splitC 32 ((splitC 59 s).getD 2 []) := by rw [← e2]; exact hx5
                have c0 : (x3.cut 1 x3.l.length).l = (splitC 32 ((splitC 59 s).getD 0 [])).tail := by rw [Sl.cut_full, g0, List.drop_one]
                have c1 : (x4.cut 1 x4.l.length).l = (splitC 32 ((splitC 59 s).getD 1 [])).tail := by rw [Sl.cut_full, g1, List.drop_one]
                have c2 : (x5.cut 1 x5.l.length).l = (splitC 32 ((splitC 59 s).getD 2 [])).tail := by rw [Sl.cut_full, g2, List.drop_one]
                simp only [PPolicy.lg, polS, polOf, c0, c1, c2, TPolicy.mk.injEq, true_and]
                rw [← e2]
                first
                  | (rw [if_neg (show ¬ 3 < x2.l.length from fun h => by omega)]; done)
                  | (rw [if_pos (show 3 < x2.l.length from Int.ofNat_lt.1 (by omega))]; done)
                  | (rw [if_pos (show 3 < x2.l.length from Int.ofNat_lt.1 (by omega))]
                     simp only [nonceS, nonceI]
                     first
                       | (rfl; done)
                       | (rw [if_neg (by omega)]; done)
                       | (rw [if_pos (by omega), List.take_of_length_le (by simp)]; done)
                       | (rw [if_pos (by omega)]; done))
              refine WL.callp hs (by rfl) (Yc.func (by rfl) fn58) (c_spec_FormatPolicy (⟨true, (x3.cut 1 x3.l.length), (x4.cut 1 x4.l.length), (x5.cut 1 x5.l.length), ([] : Str)⟩ : PPolicy) _ ⟨trivial, (Sl.Ok.cut (hs.okow (x := x3) (F := F3) (by repeat (first | exact List.mem_cons_self | apply List.mem_cons_of_mem))) (by rw [hx3]; exact List.length_pos_iff.2 (splitC_ne _ _)) (by exact Nat.le_refl _)), (Sl.Ok.cut (hs.okow (x := x4) (F := F4) (by repeat (first | exact List.mem_cons_self | apply List.mem_cons_of_mem))) (by rw [hx4]; exact List.length_pos_iff.2 (splitC_ne _ _)) (by exact Nat.le_refl _)), (Sl.Ok.cut (hs.okow (x := x5) (F := F5) (by repeat (first | exact List.mem_cons_self | apply List.mem_cons_of_mem))) (by rw [hx5]; exact List.length_pos_iff.2 (splitC_ne _ _)) (by exact Nat.le_refl _)), (show WfS [] from Nat.zero_le _)⟩ (by rw [hpl9]; have := polS_size (s := s) (by rw [← show x2.l = splitC 59 s from hx2]; omega); omega)) ?_
              clear hs; intro w hs
              refine WL.p (by rfl) (Yl.move (by rfl)) ?_
              refine WL.p (by rfl) (Yl.nes (by rfl) (by rfl)) ?_
              refine WL.next ?_
              refine WC.condS (by rfl) (fun h4 => ?_) (fun h4 => ?_)
              ·
                replace h4 := not_eq_true h4
                replace h4 := of_decide_eq_false h4
                refine WC.seq ?_
                refine WL.p (by rfl) (Yl.build bt37 (by rfl) (by repeat (first | exact Fill.nil | (apply Fill.cons; rfl; rfl; rfl; repeat (first | (apply SetAt.here; repeat (first | exact Over.nil | apply Over.cons)) | apply SetAt.there))))) ?_
                refine WL.s (Yr.storeB hs (by rfl) (by rfl) (by rfl) (by repeat (first | exact Repl.here | apply Repl.there)) (by repeat (first | (apply SetAt.here; repeat (first | exact Over.nil | apply Over.cons)) | apply SetAt.there)) (by rfl) (by exact szf37)) ?_
                clear hs; rintro _ w hs
                refine WL.p (by rfl) (Yl.assign (by rfl)) ?_
                refine WL.next ?_
                refine WC.ret ?_
                refine At.thenret ?_
                refine fin2c rfl agg37 (by rfl) (by rfl) hs (by repeat (first | exact List.mem_cons_self | apply List.mem_cons_of_mem)) (by rfl) ?_
                refine Ret.mk hs ?_
                rw [hpl9] at h4
                have hb9 : policyIs s = false := policyIs_bad h1 h4
                exact ⟨⟨false, ⟨[], none, 0⟩, ⟨[], none, 0⟩, ⟨[], none, 0⟩, []⟩, by rw [hb9]; rfl, (policyOf_no (.inr hb9)).symm, ⟨⟨[], PPolicy.zown _, .nil, fun b h => by cases h⟩⟩⟩
              ·
                replace h4 := not_eq_false h4
                replace h4 := of_decide_eq_true h4
                refine WC.skipn ?_
                refine WC.seq ?_
                refine WL.p (by rfl) (Yl.loadAB agg37 (by rfl) hs (by repeat (first | exact List.mem_cons_self | apply List.mem_cons_of_mem)) (by rfl) (by rfl)) ?_
                refine WL.s (Yr.storeB hs (by rfl) (by rfl) (by rfl) (by repeat (first | exact Repl.here | apply Repl.there)) (by repeat (first | (apply SetAt.here; repeat (first | exact Over.nil | apply Over.cons)) | apply SetAt.there)) (by rfl) (by exact szf37)) ?_
                clear hs; rintro _ w hs
                refine WL.p (by rfl) (Yl.assign (by rfl)) ?_
                refine WL.next ?_
                refine WC.ret ?_
                refine fin2c rfl agg37 (by rfl) (by rfl) hs (by repeat (first | exact List.mem_cons_self | apply List.mem_cons_of_mem)) (by rfl) ?_
                refine Ret.mk hs ?_
                rw [hpl9] at h4
                have hq9 : x2.l = splitC 59 s := hx2
                have h49 : 3 ≤ (splitC 59 s).length := by rw [← hq9]; omega
                have hb9 : policyIs s = true := policyIs_good h4 h49
                obtain ⟨G90, hs⟩ := Sat.cutow (lo := 1) (hi := x3.l.length) (hs.sel (D := [ow x3 F3]) (by repeat (first | exact Sel.nil | (apply Sel.cons; (repeat (first | exact Ext.here | apply Ext.there)))))) (by rw [hx3]; exact List.length_pos_iff.2 (splitC_ne _ _)) (Nat.le_refl _)
                obtain ⟨G91, hs⟩ := Sat.cutow (lo := 1) (hi := x4.l.length) (hs.sel (D := [ow x4 F4]) (by repeat (first | exact Sel.nil | (apply Sel.cons; (repeat (first | exact Ext.here | apply Ext.there)))))) (by rw [hx4]; exact List.length_pos_iff.2 (splitC_ne _ _)) (Nat.le_refl _)
                obtain ⟨G92, hs⟩ := Sat.cutow (lo := 1) (hi := x5.l.length) (hs.sel (D := [ow x5 F5]) (by repeat (first | exact Sel.nil | (apply Sel.cons; (repeat (first | exact Ext.here | apply Ext.there)))))) (by rw [hx5]; exact List.length_pos_iff.2 (splitC_ne _ _)) (Nat.le_refl _)
                refine ⟨(⟨true, (x3.cut 1 x3.l.length), (x4.cut 1 x4.l.length), (x5.cut 1 x5.l.length), ([] : Str)⟩ : PPolicy), by rw [hb9]; rfl, hpl9.trans (policyOf_good h1 hb9).symm, ?_⟩
                exact (PPolicy.join _ (hs.only (D := [ow (x3.cut 1 x3.l.length) G90, ow (x4.cut 1 x4.l.length) G91, ow (x5.cut 1 x5.l.length) G92]) (by repeat (first | exact Sel.nil | (apply Sel.cons; (repeat (first | exact Ext.here | apply Ext.there)))))) trivial (by show WfS _; unfold WfS; first | (simp only [List.length_take, List.length_drop]; omega) | simp)).fresh List.mem_cons_self
          ·
            refine WI.r (i := 16) (by rfl) (by rfl) (Yr.alloc hs zt37) (by rintro _ w ⟨b7, rfl, hb, hs⟩; exact hs.only (by repeat (first | exact Sel.nil | (apply Sel.cons; (repeat (first | exact Ext.here | apply Ext.there)))))) ?_
            clear hs; rintro _ w ⟨b7, rfl, hb, hs⟩; clear hb
            refine WA.call2 (i := 13) hs (fun _ hs => hs.only (by repeat (first | exact Sel.nil | (apply Sel.cons; (repeat (first | exact Ext.here | apply Ext.there)))))) (by kernel_rfl) (by rfl) (by rfl) (Yc.func (by rfl) fn50) (c_spec_l5Split _ 32 _ (by first | (have := getD_len (s := s) (i := 0); rw [← show x2.l = splitC 59 s from hx2] at this; omega) | (have := getD_len (s := s) (i := 1); rw [← show x2.l = splitC 59 s from hx2] at this; omega) | (have := getD_len (s := s) (i := 2); rw [← show x2.l = splitC 59 s from hx2] at this; omega) | (have := getD_len (s := s) (i := 3); rw [← show x2.l = splitC 59 s from hx2] at this; omega))) ?_
            have hs0 := hs; clear hs; intro v w hb hR hs; clear hs
            obtain ⟨x8, rfl, hx8, hf8⟩ := hR
            obtain ⟨F8, hs⟩ := hf8.sat hs0 hb; clear hs0 hf8
            have hle8 := Sl.Ok.le (hs.okow (x := x8) (F := F8) (by repeat (first | exact List.mem_cons_self | apply List.mem_cons_of_mem)))
            refine WA.r (i := 14) (by kernel_rfl) (by rfl) (by rfl) (Yl.yr (Yl.slice_sl (s := x8) (l := 1) (h := x8.l.length) slt35 (by rfl) hle8 (by exact ⟨_, by rfl⟩) (by exact rfl) (by rw [hx8]; exact List.length_pos_iff.2 (splitC_ne _ _)) (by exact Nat.le_refl _))) (by rintro _ _ ⟨rfl, rfl⟩; exact hs.only (by repeat (first | exact Sel.nil | (apply Sel.cons; (repeat (first | exact Ext.here | apply Ext.there)))))) ?_
            rintro _ _ ⟨rfl, rfl⟩
            refine WA.p (i := 15) (by rfl) (by kernel_rfl) (by kernel_rfl) (by kernel_rfl) (by rfl) (hs.only (by repeat (first | exact Sel.nil | (apply Sel.cons; (repeat (first | exact Ext.here | apply Ext.there)))))) (fun w hs => Yl.build bt37 (by rfl) (by repeat (first | exact Fill.nil | (apply Fill.cons; rfl; rfl; rfl; repeat (first | (apply SetAt.here; repeat (first | exact Over.nil | apply Over.cons)) | apply SetAt.there))))) ?_
            refine WA.s (i := 17) (by kernel_rfl) (by rfl) (Yr.storeB hs (by rfl) (by rfl) (by rfl) (by repeat (first | exact Repl.here | apply Repl.there)) (by repeat (first | (apply SetAt.here; repeat (first | exact Over.nil | apply Over.cons)) | apply SetAt.there)) (by rfl) (by exact szf37)) (by rintro _ w hs; exact hs.only (by repeat (first | exact Sel.nil | (apply Sel.cons; (repeat (first | exact Ext.here | apply Ext.there)))))) ?_
            clear hs; rintro _ w hs
            refine WA.donen (by kernel_rfl) ?_
            refine WC.seq' ?_
            refine WC.seq ?_
            refine WL.p (by rfl) (Yl.move (by rfl)) ?_
            refine WL.p (by rfl) (Yl.len_sl slu35 (by rfl)) ?_
            refine WL.p (by rfl) (Yl.gtr (by rfl) (by rfl)) ?_
            refine WL.p (by rfl) (Yl.move (by rfl)) ?_
            refine WL.split (d := 34) (by rfl) (fun h3 => ?_) (fun h3 => ?_)
            ·
              replace h3 := of_decide_eq_true h3
              refine WL.run (d := 34) (by rfl) (by rfl) ?_
              refine WL.p (by rfl) (Yl.move (by rfl)) ?_
              refine WL.run (d := 34) (by rfl) (by rfl) ?_
              refine WL.p (by rfl) (Yl.indexAddr (k := 3) slt35 (by rfl) (by rfl) (hs.okow (x := x2) (F := F2) (by repeat (first | exact List.mem_cons_self | apply List.mem_cons_of_mem))) (by rfl) ((getD_some (i := 3) (z := ([] : Str)) (by omega)))) ?_
              refine WL.run (d := 34) (by rfl) (by rfl) ?_
              refine WL.p (by rfl) (Yl.loadC0 sca9 (by rfl) (Sl.Ok.at_ (hs.okow (x := x2) (F := F2) (by repeat (first | exact List.mem_cons_self | apply List.mem_cons_of_mem))) ((getD_some (i := 3) (z := ([] : Str)) (by omega)))).2 (by rfl)) ?_
              refine WL.run (d := 34) (by rfl) (by rfl) ?_
              refine WL.p (by rfl) (Yl.len_str str9 (by rfl)) ?_
              refine WL.run (d := 34) (by rfl) (by rfl) ?_
              refine WL.p (by rfl) (Yl.gtr (by rfl) (by rfl)) ?_
              refine WL.p (by rfl) (Yl.pickT (by rfl) (by rfl)) ?_
              refine WL.next ?_
              refine WC.condS (by rfl) (fun h4 => ?_) (fun h4 => ?_)
              ·
                replace h4 := of_decide_eq_true h4
                refine WC.region ?_
                refine WL.p (by rfl) (Yl.move (by rfl)) ?_
                refine WL.p (by rfl) (Yl.indexAddr (k := 3) slt35 (by rfl) (by rfl) (hs.okow (x := x2) (F := F2) (by repeat (first | exact List.mem_cons_self | apply List.mem_cons_of_mem))) (by rfl) ((getD_some (i := 3) (z := ([] : Str)) (by omega)))) ?_
                refine WL.p (by rfl) (Yl.loadC0 sca9 (by rfl) (Sl.Ok.at_ (hs.okow (x := x2) (F := F2) (by repeat (first | exact List.mem_cons_self | apply List.mem_cons_of_mem))) ((getD_some (i := 3) (z := ([] : Str)) (by omega)))).2 (by rfl)) ?_
                refine WL.p (by rfl) (Yl.slice_str (l := 6) str9 (by rfl) (by exact ⟨_, by rfl⟩) (by exact rfl) (by omega) (by omega)) ?_
                refine WL.p (by rfl) (Yl.fieldAddr fa37_4 (by rfl)) ?_
                refine WL.s (Yr.storeB hs (by rfl) (by rfl) (by rfl) (by repeat (first | exact Repl.here | apply Repl.there)) (by repeat (first | (apply SetAt.here; repeat (first | exact Over.nil | apply Over.cons)) | apply SetAt.there)) (by rfl) (by exact szf9)) ?_
                clear hs; rintro _ w hs
                refine WL.nil ?_
                refine At.then_ ?_
                refine WC.seq' ?_
                refine WC.seq ?_
                refine WL.p (by rfl) (Yl.loadAB agg37 (by rfl) hs (by repeat (first | exact List.mem_cons_self | apply List.mem_cons_of_mem)) (by rfl) (by rfl)) ?_
                have hpl9 : PPolicy.lg (⟨true, (x3.cut 1 x3.l.length), (x4.cut 1 x4.l.length), (x8.cut 1 x8.l.length), (((x2.l.getD 3 []).drop 6).take ((x2.l.getD 3 []).length - 6))⟩ : PPolicy) = polS s := by
                  have e2 : x2.l = splitC 59 s := hx2
                  have g0 : x3.l = splitC 32 ((splitC 59 s).getD 0 []) := by rw [← e2]; exact hx3
                  have g1 : x4.l = splitC 32 ((splitC 59 s).getD 1 []) := by rw [← e2]; exact hx4
                  have g2 : x8.l = splitC 32 ((splitC 59 s).getD 2 []) := by rw [← e2]; exact hx8
                  have c0 : (x3.cut 1 x3.l.length).l = (splitC 32 ((splitC 59 s).getD 0 [])).tail := by rw [Sl.cut_full, g0, List.drop_one]
                  have c1 : (x4.cut 1 x4.l.length).l = (splitC 32 ((splitC 59 s).getD 1 [])).tail := by rw [Sl.cut_full, g1, List.drop_one]
                  have c2 : (x8.cut 1 x8.l.length).l = (splitC 32 ((splitC 59 s).getD 2 [])).tail := by rw [Sl.cut_full, g2, List.drop_one]
                  simp only [PPolicy.lg, polS, polOf, c0, c1, c2, TPolicy.mk.injEq, true_and]
                  rw [← e2]
                  first
                    | (rw [if_neg (show ¬ 3 < x2.l.length from fun h => by omega)]; done)
                    | (rw [if_pos (show 3 < x2.l.length from Int.ofNat_lt.1 (by omega))]; done)
                    | (rw [if_pos (show 3 < x2.l.length from Int.ofNat_lt.1 (by omega))]
                       simp only [nonceS, nonceI]
                       first
                         | (rfl; done)
                         | (rw [if_neg (by omega)]; done)
                         | (rw [if_pos (by omega), List.take_of_length_le (by simp)]; done)
                         | (rw [if_pos (by omega)]; done))
                refine WL.callp hs (by rfl) (Yc.func (by rfl) fn58) (c_spec_FormatPolicy (⟨true, (x3.cut 1 x3.l.length), (x4.cut 1 x4.l.length), (x8.cut 1 x8.l.length), (((x2.l.getD 3 []).drop 6).take ((x2.l.getD 3 []).length - 6))⟩ : PPolicy) _ ⟨trivial, (Sl.Ok.cut (hs.okow (x := x3) (F := F3) (by repeat (first | exact List.mem_cons_self | apply List.mem_cons_of_mem))) (by rw [hx3]; exact List.length_pos_iff.2 (splitC_ne _ _)) (by exact Nat.le_refl _)), (Sl.Ok.cut (hs.okow (x := x4) (F := F4) (by repeat (first | exact List.mem_cons_self | apply List.mem_cons_of_mem))) (by rw [hx4]; exact List.length_pos_iff.2 (splitC_ne _ _)) (by exact Nat.le_refl _)), (Sl.Ok.cut (hs.okow (x := x8) (F := F8) (by repeat (first | exact List.mem_cons_self | apply List.mem_cons_of_mem))) (by rw [hx8]; exact List.length_pos_iff.2 (splitC_ne _ _)) (by exact Nat.le_refl _)), (by show WfS _; unfold WfS; simp only [List.length_take, List.length_drop]; omega)⟩ (by rw [hpl9]; have := polS_size (s := s) (by rw [← show x2.l = splitC 59 s from hx2]; omega); omega)) ?_
                clear hs; intro w hs
                refine WL.p (by rfl) (Yl.move (by rfl)) ?_
                refine WL.p (by rfl) (Yl.nes (by rfl) (by rfl)) ?_
                refine WL.next ?_
                refine WC.condS (by rfl) (fun h5 => ?_) (fun h5 => ?_)
                ·
                  replace h5 := not_eq_true h5
                  replace h5 := of_decide_eq_false h5
                  refine WC.seq ?_
                  refine WL.p (by rfl) (Yl.build bt37 (by rfl) (by repeat (first | exact Fill.nil | (apply Fill.cons; rfl; rfl; rfl; repeat (first | (apply SetAt.here; repeat (first | exact Over.nil | apply Over.cons)) | apply SetAt.there))))) ?_
                  refine WL.s (Yr.storeB hs (by rfl) (by rfl) (by rfl) (by repeat (first | exact Repl.here | apply Repl.there)) (by repeat (first | (apply SetAt.here; repeat (first | exact Over.nil | apply Over.cons)) | apply SetAt.there)) (by rfl) (by exact szf37)) ?_
                  clear hs; rintro _ w hs
                  refine WL.p (by rfl) (Yl.assign (by rfl)) ?_
                  refine WL.next ?_
                  refine WC.ret ?_
                  refine At.thenret ?_
                  refine fin2c rfl agg37 (by rfl) (by rfl) hs (by repeat (first | exact List.mem_cons_self | apply List.mem_cons_of_mem)) (by rfl) ?_
                  refine Ret.mk hs ?_
                  rw [hpl9] at h5
                  have hb9 : policyIs s = false := policyIs_bad h1 h5
                  exact ⟨⟨false, ⟨[], none, 0⟩, ⟨[], none, 0⟩, ⟨[], none, 0⟩, []⟩, by rw [hb9]; rfl, (policyOf_no (.inr hb9)).symm, ⟨⟨[], PPolicy.zown _, .nil, fun b h => by cases h⟩⟩⟩
                ·
                  replace h5 := not_eq_false h5
                  replace h5 := of_decide_eq_true h5
                  refine WC.skipn ?_
                  refine WC.seq ?_
                  refine WL.p (by rfl) (Yl.loadAB agg37 (by rfl) hs (by repeat (first | exact List.mem_cons_self | apply List.mem_cons_of_mem)) (by rfl) (by rfl)) ?_
                  refine WL.s (Yr.storeB hs (by rfl) (by rfl) (by rfl) (by repeat (first | exact Repl.here | apply Repl.there)) (by repeat (first | (apply SetAt.here; repeat (first | exact Over.nil | apply Over.cons)) | apply SetAt.there)) (by rfl) (by exact szf37)) ?_
                  clear hs; rintro _ w hs
                  refine WL.p (by rfl) (Yl.assign (by rfl)) ?_
                  refine WL.next ?_
                  refine WC.ret ?_
                  refine fin2c rfl agg37 (by rfl) (by rfl) hs (by repeat (first | exact List.mem_cons_self | apply List.mem_cons_of_mem)) (by rfl) ?_
                  refine Ret.mk hs ?_
                  rw [hpl9] at h5
                  have hq9 : x2.l = splitC 59 s := hx2
                  have h49 : 3 ≤ (splitC 59 s).length := by rw [← hq9]; omega
                  have hb9 : policyIs s = true := policyIs_good h5 h49
                  obtain ⟨G90, hs⟩ := Sat.cutow (lo := 1) (hi := x3.l.length) (hs.sel (D := [ow x3 F3]) (by repeat (first | exact Sel.nil | (apply Sel.cons; (repeat (first | exact Ext.here | apply Ext.there)))))) (by rw [hx3]; exact List.length_pos_iff.2 (splitC_ne _ _)) (Nat.le_refl _)
                  obtain ⟨G91, hs⟩ := Sat.cutow (lo := 1) (hi := x4.l.length) (hs.sel (D := [ow x4 F4]) (by repeat (first | exact Sel.nil | (apply Sel.cons; (repeat (first | exact Ext.here | apply Ext.there)))))) (by rw [hx4]; exact List.length_pos_iff.2 (splitC_ne _ _)) (Nat.le_refl _)
                  obtain ⟨G92, hs⟩ := Sat.cutow (lo := 1) (hi := x8.l.length) (hs.sel (D := [ow x8 F8]) (by repeat (first | exact Sel.nil | (apply Sel.cons; (repeat (first | exact Ext.here | apply Ext.there)))))) (by rw [hx8]; exact List.length_pos_iff.2 (splitC_ne _ _)) (Nat.le_refl _)
                  refine ⟨(⟨true, (x3.cut 1 x3.l.length), (x4.cut 1 x4.l.length), (x8.cut 1 x8.l.length), (((x2.l.getD 3 []).drop 6).take ((x2.l.getD 3 []).length - 6))⟩ : PPolicy), by rw [hb9]; rfl, hpl9.trans (policyOf_good h1 hb9).symm, ?_⟩
                  exact (PPolicy.join _ (hs.only (D := [ow (x3.cut 1 x3.l.length) G90, ow (x4.cut 1 x4.l.length) G91, ow (x8.cut 1 x8.l.length) G92]) (by repeat (first | exact Sel.nil | (apply Sel.cons; (repeat (first | exact Ext.here | apply Ext.there)))))) trivial (by show WfS _; unfold WfS; first | (simp only [List.length_take, List.length_drop]; omega) | simp)).fresh List.mem_cons_self
              ·
                replace h4 := of_decide_eq_false h4
                refine WC.skipn ?_
                refine WC.seq' ?_
                refine WC.seq ?_
                refine WL.p (by rfl) (Yl.loadAB agg37 (by rfl) hs (by repeat (first | exact List.mem_cons_self | apply List.mem_cons_of_mem)) (by rfl) (by rfl)) ?_
                have hpl9 : PPolicy.lg (⟨true, (x3.cut 1 x3.l.length), (x4.cut 1 x4.l.length), (x8.cut 1 x8.l.length), ([] : Str)⟩ : PPolicy) = polS s := by
                  have e2 : x2.l = splitC 59 s := hx2
                  have g0 : x3.l = splitC 32 ((splitC 59 s).getD 0 []) := by rw [← e2]; exact hx3
                  have g1 : x4.l = splitC 32 ((splitC 59 s).getD 1 []) := by rw [← e2]; exact hx4
                  have g2 : x8.l = splitC 32 ((splitC 59 s).getD 2 []) := by rw [← e2]; exact hx8
                  have c0 : (x3.cut 1 x3.l.length).l = (splitC 32 ((splitC 59 s).getD 0 [])).tail := by rw [Sl.cut_full, g0, List.drop_one]
                  have c1 : (x4.cut 1 x4.l.length).l = (splitC 32 ((splitC 59 s).getD 1 [])).tail := by rw [Sl.cut_full, g1, List.drop_one]
                  have c2 : (x8.cut 1 x8.l.length).l = (splitC 32 ((splitC 59 s).getD 2 [])).tail := by rw [Sl.cut_full, g2, List.drop_one]
                  simp only [PPolicy.lg, polS, polOf, c0, c1, c2, TPolicy.mk.injEq, true_and]
                  rw [← e2]
                  first
                    | (rw [if_neg (show ¬ 3 < x2.l.length from fun h => by omega)]; done)
                    | (rw [if_pos (show 3 < x2.l.length from Int.ofNat_lt.1 (by omega))]; done)
                    | (rw [if_pos (show 3 < x2.l.length from Int.ofNat_lt.1 (by omega))]
                       simp only [nonceS, nonceI]
                       first
                         | (rfl; done)
                         | (rw [if_neg (by omega)]; done)
                         | (rw [if_pos (by omega), List.take_of_length_le (by simp)]; done)
                         | (rw [if_pos (by omega)]; done))
                refine WL.callp hs (by rfl) (Yc.func (by rfl) fn58) (c_spec_FormatPolicy (⟨true, (x3.cut 1 x3.l.length), (x4.cut 1 x4.l.length), (x8.cut 1 x8.l.length), ([] : Str)⟩ : PPolicy) _ ⟨trivial, (Sl.Ok.cut (hs.okow (x := x3) (F := F3) (by repeat (first | exact List.mem_cons_self | apply List.mem_cons_of_mem))) (by rw [hx3]; exact List.length_pos_iff.2 (splitC_ne _ _)) (by exact Nat.le_refl _)), (Sl.Ok.cut (hs.okow (x := x4) (F := F4) (by repeat (first | exact List.mem_cons_self | apply List.mem_cons_of_mem))) (by rw [hx4]; exact List.length_pos_iff.2 (splitC_ne _ _)) (by exact Nat.le_refl _)), (Sl.Ok.cut (hs.okow (x := x8) (F := F8) (by repeat (first | exact List.mem_cons_self | apply List.mem_cons_of_mem))) (by rw [hx8]; exact List.length_pos_iff.2 (splitC_ne _ _)) (by exact Nat.le_refl _)), (show WfS [] from Nat.zero_le _)⟩ (by rw [hpl9]; have := polS_size (s := s) (by rw [← show x2.l = splitC 59 s from hx2]; omega); omega)) ?_
                clear hs; intro w hs
                refine WL.p (by rfl) (Yl.move (by rfl)) ?_
                refine WL.p (by rfl) (Yl.nes (by rfl) (by rfl)) ?_
                refine WL.next ?_
                refine WC.condS (by rfl) (fun h5 => ?_) (fun h5 => ?_)
                ·
                  replace h5 := not_eq_true h5
                  replace h5 := of_decide_eq_false h5
                  refine WC.seq ?_
                  refine WL.p (by rfl) (Yl.build bt37 (by rfl) (by repeat (first | exact Fill.nil | (apply Fill.cons; rfl; rfl; rfl; repeat (first | (apply SetAt.here; repeat (first | exact Over.nil | apply Over.cons)) | apply SetAt.there))))) ?_
                  refine WL.s (Yr.storeB hs (by rfl) (by rfl) (by rfl) (by repeat (first | exact Repl.here | apply Repl.there)) (by repeat (first | (apply SetAt.here; repeat (first | exact Over.nil | apply Over.cons)) | apply SetAt.there)) (by rfl) (by exact szf37)) ?_
                  clear hs; rintro _ w hs
                  refine WL.p (by rfl) (Yl.assign (by rfl)) ?_
                  refine WL.next ?_
                  refine WC.ret ?_
                  refine At.thenret ?_
                  refine fin2c rfl agg37 (by rfl) (by rfl) hs (by repeat (first | exact List.mem_cons_self | apply List.mem_cons_of_mem)) (by rfl) ?_
                  refine Ret.mk hs ?_
                  rw [hpl9] at h5
                  have hb9 : policyIs s = false := policyIs_bad h1 h5
                  exact ⟨⟨false, ⟨[], none, 0⟩, ⟨[], none, 0⟩, ⟨[], none, 0⟩, []⟩, by rw [hb9]; rfl, (policyOf_no (.inr hb9)).symm, ⟨⟨[], PPolicy.zown _, .nil, fun b h => by cases h⟩⟩⟩
                ·
                  replace h5 := not_eq_false h5
                  replace h5 := of_decide_eq_true h5
                  refine WC.skipn ?_
                  refine WC.seq ?_
                  refine WL.p (by rfl) (Yl.loadAB agg37 (by rfl) hs (by repeat (first | exact List.mem_cons_self | apply List.mem_cons_of_mem)) (by rfl) (by rfl)) ?_
                  refine WL.s (Yr.storeB hs (by rfl) (by rfl) (by rfl) (by repeat (first | exact Repl.here | apply Repl.there)) (by repeat (first | (apply SetAt.here; repeat (first | exact Over.nil | apply Over.cons)) | apply SetAt.there)) (by rfl) (by exact szf37)) ?_
                  clear hs; rintro _ w hs
                  refine WL.p (by rfl) (Yl.assign (by rfl)) ?_
                  refine WL.next ?_
                  refine WC.ret ?_
                  refine fin2c rfl agg37 (by rfl) (by rfl) hs (by repeat (first | exact List.mem_cons_self | apply List.mem_cons_of_mem)) (by rfl) ?_
                  refine Ret.mk hs ?_
                  rw [hpl9] at h5
                  have hq9 : x2.l = splitC 59 s := hx2
                  have h49 : 3 ≤ (splitC 59 s).length := by rw [← hq9]; omega
                  have hb9 : policyIs s = true := policyIs_good h5 h49
                  obtain ⟨G90, hs⟩ := Sat.cutow (lo := 1) (hi := x3.l.length) (hs.sel (D := [ow x3 F3]) (by repeat (first | exact Sel.nil | (apply Sel.cons; (repeat (first | exact Ext.here | apply Ext.there)))))) (by rw [hx3]; exact List.length_pos_iff.2 (splitC_ne _ _)) (Nat.le_refl _)
                  obtain ⟨G91, hs⟩ := Sat.cutow (lo := 1) (hi := x4.l.length) (hs.sel (D := [ow x4 F4]) (by repeat (first | exact Sel.nil | (apply Sel.cons; (repeat (first | exact Ext.here | apply Ext.there)))))) (by rw [hx4]; exact List.length_pos_iff.2 (splitC_ne _ _)) (Nat.le_refl _)
                  obtain ⟨G92, hs⟩ := Sat.cutow (lo := 1) (hi := x8.l.length) (hs.sel (D := [ow x8 F8]) (by repeat (first | exact Sel.nil | (apply Sel.cons; (repeat (first | exact Ext.here | apply Ext.there)))))) (by rw [hx8]; exact List.length_pos_iff.2 (splitC_ne _ _)) (Nat.le_refl _)
                  refine ⟨(⟨true, (x3.cut 1 x3.l.length), (x4.cut 1 x4.l.length), (x8.cut 1 x8.l.length), ([] : Str)⟩ : PPolicy), by rw [hb9]; rfl, hpl9.trans (policyOf_good h1 hb9).symm, ?_⟩
                  exact (PPolicy.join _ (hs.only (D := [ow (x3.cut 1 x3.l.length) G90, ow (x4.cut 1 x4.l.length) G91, ow (x8.cut 1 x8.l.length) G92]) (by repeat (first | exact Sel.nil | (apply Sel.cons; (repeat (first | exact Ext.here | apply Ext.there)))))) trivial (by show WfS _; unfold WfS; first | (simp only [List.length_take, List.length_drop]; omega) | simp)).fresh List.mem_cons_self
            ·
              replace h3 := of_decide_eq_false h3
              refine WL.skip (d := 34) (by rfl) (by rfl) (by rfl) (by rfl) ?_
              refine WL.skip (d := 34) (by rfl) (by rfl) (by rfl) (by rfl) ?_
              refine WL.skip (d := 34) (by rfl) (by rfl) (by rfl) (by rfl) ?_
              refine WL.skip (d := 34) (by rfl) (by rfl) (by rfl) (by rfl) ?_
              refine WL.skip (d := 34) (by rfl) (by rfl) (by rfl) (by rfl) ?_
              refine WL.p (by rfl) (Yl.pickF (by rfl) (by rfl)) ?_
              refine WL.next ?_
              refine WC.condF (by rfl) ?_
              refine WC.skipn ?_
              refine WC.seq' ?_
              refine WC.seq ?_
              refine WL.p (by rfl) (Yl.loadAB agg37 (by rfl) hs (by repeat (first | exact List.mem_cons_self | apply List.mem_cons_of_mem)) (by rfl) (by rfl)) ?_
              have hpl9 : PPolicy.lg (⟨true, (x3.cut 1 x3.l.length), (x4.cut 1 x4.l.length), (x8.cut 1 x8.l.length), ([] : Str)⟩ : PPolicy) = polS s := by
                have e2 : x2.l = splitC 59 s := hx2
                have g0 : x3.l = splitC 32 ((splitC 59 s).getD 0 []) := by rw [← e2]; exact hx3
                have g1 : x4.l = splitC 32 ((splitC 59 s).getD 1 []) := by rw [← e2]; exact hx4
                have g2 : x8.l = splitC 32 ((splitC 59 s).getD 2 []) := by rw [← e2]; exact hx8
                have c0 : (x3.cut 1 x3.l.length).l = (splitC 32 ((splitC 59 s).getD 0 [])).tail := by rw [Sl.cut_full, g0, List.drop_one]
                have c1 : (x4.cut 1 x4.l.length).l = (splitC 32 ((splitC 59 s).getD 1 [])).tail := by rw [Sl.cut_full, g1, List.drop_one]
                have c2 : (x8.cut 1 x8.l.length).l = (splitC 32 ((splitC 59 s).getD 2 [])).tail := by rw [Sl.cut_full, g2, List.drop_one]
                simp only [PPolicy.lg, polS, polOf, c0, c1, c2, TPolicy.mk.injEq, true_and]
                rw [← e2]
                first
                  | (rw [if_neg (show ¬ 3 < x2.l.length from fun h => by omega)]; done)
                  | (rw [if_pos (show 3 < x2.l.length from Int.ofNat_lt.1 (by omega))]; done)
                  | (rw [if_pos (show 3 < x2.l.length from Int.ofNat_lt.1 (by omega))]
                     simp only [nonceS, nonceI]
                     first
                       | (rfl; done)
                       | (rw [if_neg (by omega)]; done)
                       | (rw [if_pos (by omega), List.take_of_length_le (by simp)]; done)
                       | (rw [if_pos (by omega)]; done))
              refine WL.callp hs (by rfl) (Yc.func (by rfl) fn58) (c_spec_FormatPolicy (⟨true, (x3.cut 1 x3.l.length), (x4.cut 1 x4.l.length), (x8.cut 1 x8.l.length), ([] : Str)⟩ : PPolicy) _ ⟨trivial, (Sl.Ok.cut (hs.okow (x := x3) (F := F3) (by repeat (first | exact List.mem_cons_self | apply List.mem_cons_of_mem))) (by rw [hx3]; exact List.length_pos_iff.2 (splitC_ne _ _)) (by exact Nat.le_refl _)), (Sl.Ok.cut (hs.okow (x := x4) (F := F4) (by repeat (first | exact List.mem_cons_self | apply List.mem_cons_of_mem))) (by rw [hx4]; exact List.length_pos_iff.2 (splitC_ne _ _)) (by exact Nat.le_refl _)), (Sl.Ok.cut (hs.okow (x := x8) (F := F8) (by repeat (first | exact List.mem_cons_self | apply List.mem_cons_of_mem))) (by rw [hx8]; exact List.length_pos_iff.2 (splitC_ne _ _)) (by exact Nat.le_refl _)), (show WfS [] from Nat.zero_le _)⟩ (by rw [hpl9]; have := polS_size (s := s) (by rw [← show x2.l = splitC 59 s from hx2]; omega); omega)) ?_
              clear hs; intro w hs
              refine WL.p (by rfl) (Yl.move (by rfl)) ?_
              refine WL.p (by rfl) (Yl.nes (by rfl) (by rfl)) ?_
              refine WL.next ?_
              refine WC.condS (by rfl) (fun h4 => ?_) (fun h4 => ?_)
              ·
                replace h4 := not_eq_true h4
                replace h4 := of_decide_eq_false h4
                refine WC.seq ?_
                refine WL.p (by rfl) (Yl.build bt37 (by rfl) (by repeat (first | exact Fill.nil | (apply Fill.cons; rfl; rfl; rfl; repeat (first | (apply SetAt.here; repeat (first | exact Over.nil | apply Over.cons)) | apply SetAt.there))))) ?_
                refine WL.s (Yr.storeB hs (by rfl) (by rfl) (by rfl) (by repeat (first | exact Repl.here | apply Repl.there)) (by repeat (first | (apply SetAt.here; repeat (first | exact Over.nil | apply Over.cons)) | apply SetAt.there)) (by rfl) (by exact szf37)) ?_
                clear hs; rintro _ w hs
                refine WL.p (by rfl) (Yl.assign (by rfl)) ?_
                refine WL.next ?_
                refine WC.ret ?_
                refine At.thenret ?_
                refine fin2c rfl agg37 (by rfl) (by rfl) hs (by repeat (first | exact List.mem_cons_self | apply List.mem_cons_of_mem)) (by rfl) ?_
                refine Ret.mk hs ?_
                rw [hpl9] at h4
                have hb9 : policyIs s = false := policyIs_bad h1 h4
                exact ⟨⟨false, ⟨[], none, 0⟩, ⟨[], none, 0⟩, ⟨[], none, 0⟩, []⟩, by rw [hb9]; rfl, (policyOf_no (.inr hb9)).symm, ⟨⟨[], PPolicy.zown _, .nil, fun b h => by cases h⟩⟩⟩
              ·
                replace h4 := not_eq_false h4
                replace h4 := of_decide_eq_true h4
                refine WC.skipn ?_
                refine WC.seq ?_
                refine WL.p (by rfl) (Yl.loadAB agg37 (by rfl) hs (by repeat (first | exact List.mem_cons_self | apply List.mem_cons_of_mem)) (by rfl) (by rfl)) ?_
                refine WL.s (Yr.storeB hs (by rfl) (by rfl) (by rfl) (by repeat (first | exact Repl.here | apply Repl.there)) (by repeat (first | (apply SetAt.here; repeat (first | exact Over.nil | apply Over.cons)) | apply SetAt.there)) (by rfl) (by exact szf37)) ?_
                clear hs; rintro _ w hs
                refine WL.p (by rfl) (Yl.assign (by rfl)) ?_
                refine WL.next ?_
                refine WC.ret ?_
                refine fin2c rfl agg37 (by rfl) (by rfl) hs (by repeat (first | exact List.mem_cons_self | apply List.mem_cons_of_mem)) (by rfl) ?_
                refine Ret.mk hs ?_
                rw [hpl9] at h4
                have hq9 : x2.l = splitC 59 s := hx2
                have h49 : 3 ≤ (splitC 59 s).length := by rw [← hq9]; omega
                have hb9 : policyIs s = true := policyIs_good h4 h49
                obtain ⟨G90, hs⟩ := Sat.cutow (lo := 1) (hi := x3.l.length) (hs.sel (D := [ow x3 F3]) (by repeat (first | exact Sel.nil | (apply Sel.cons; (repeat (first | exact Ext.here | apply Ext.there)))))) (by rw [hx3]; exact List.length_pos_iff.2 (splitC_ne _ _)) (Nat.le_refl _)
                obtain ⟨G91, hs⟩ := Sat.cutow (lo := 1) (hi := x4.l.length) (hs.sel (D := [ow x4 F4]) (by repeat (first | exact Sel.nil | (apply Sel.cons; (repeat (first | exact Ext.here | apply Ext.there)))))) (by rw [hx4]; exact List.length_pos_iff.2 (splitC_ne _ _)) (Nat.le_refl _)
                obtain ⟨G92, hs⟩ := Sat.cutow (lo := 1) (hi := x8.l.length) (hs.sel (D := [ow x8 F8]) (by repeat (first | exact Sel.nil | (apply Sel.cons; (repeat (first | exact Ext.here | apply Ext.there)))))) (by rw [hx8]; exact List.length_pos_iff.2 (splitC_ne _ _)) (Nat.le_refl _)
                refine ⟨(⟨true, (x3.cut 1 x3.l.length), (x4.cut 1 x4.l.length), (x8.cut 1 x8.l.length), ([] : Str)⟩ : PPolicy), by rw [hb9]; rfl, hpl9.trans (policyOf_good h1 hb9).symm, ?_⟩
                exact (PPolicy.join _ (hs.only (D := [ow (x3.cut 1 x3.l.length) G90, ow (x4.cut 1 x4.l.length) G91, ow (x8.cut 1 x8.l.length) G92]) (by repeat (first | exact Sel.nil | (apply Sel.cons; (repeat (first | exact Ext.here | apply Ext.there)))))) trivial (by show WfS _; unfold WfS; first | (simp only [List.length_take, List.length_drop]; omega) | simp)).fresh List.mem_cons_self
        ·
          refine WI.r (i := 16) (by rfl) (by rfl) (Yr.alloc hs zt37) (by rintro _ w ⟨b9, rfl, hb, hs⟩; exact hs.only (by repeat (first | exact Sel.nil | (apply Sel.cons; (repeat (first | exact Ext.here | apply Ext.there)))))) ?_
          clear hs; rintro _ w ⟨b9, rfl, hb, hs⟩; clear hb
          refine WA.call2 (i := 8) hs (fun _ hs => hs.only (by repeat (first | exact Sel.nil | (apply Sel.cons; (repeat (first | exact Ext.here | apply Ext.there)))))) (by kernel_rfl) (by rfl) (by rfl) (Yc.func (by rfl) fn50) (c_spec_l5Split _ 32 _ (by first | (have := getD_len (s := s) (i := 0); rw [← show x2.l = splitC 59 s from hx2] at this; omega) | (have := getD_len (s := s) (i := 1); rw [← show x2.l = splitC 59 s from hx2] at this; omega) | (have := getD_len (s := s) (i := 2); rw [← show x2.l = splitC 59 s from hx2] at this; omega) | (have := getD_len (s := s) (i := 3); rw [← show x2.l = splitC 59 s from hx2] at this; omega))) ?_
          have hs0 := hs; clear hs; intro v w hb hR hs; clear hs
          obtain ⟨x10, rfl, hx10, hf10⟩ := hR
          obtain ⟨F10, hs⟩ := hf10.sat hs0 hb; clear hs0 hf10
          have hle10 := Sl.Ok.le (hs.okow (x := x10) (F := F10) (by repeat (first | exact List.mem_cons_self | apply List.mem_cons_of_mem)))
          refine WA.p (i := 9) (by rfl) (by kernel_rfl) (by kernel_rfl) (by kernel_rfl) (by rfl) (hs.only (by repeat (first | exact Sel.nil | (apply Sel.cons; (repeat (first | exact Ext.here | apply Ext.there)))))) (fun w hs => Yl.slice_sl (s := x10) (l := 1) (h := x10.l.length) slt35 (by rfl) hle10 (by exact ⟨_, by rfl⟩) (by exact rfl) (by rw [hx10]; exact List.length_pos_iff.2 (splitC_ne _ _)) (by exact Nat.le_refl _)) ?_
          refine WA.call2 (i := 13) hs (fun _ hs => hs.only (by repeat (first | exact Sel.nil | (apply Sel.cons; (repeat (first | exact Ext.here | apply Ext.there)))))) (by kernel_rfl) (by rfl) (by rfl) (Yc.func (by rfl) fn50) (c_spec_l5Split _ 32 _ (by first | (have := getD_len (s := s) (i := 0); rw [← show x2.l = splitC 59 s from hx2] at this; omega) | (have := getD_len (s := s) (i := 1); rw [← show x2.l = splitC 59 s from hx2] at this; omega) | (have := getD_len (s := s) (i := 2); rw [← show x2.l = splitC 59 s from hx2] at this; omega) | (have := getD_len (s := s) (i := 3); rw [← show x2.l = splitC 59 s from hx2] at this; omega))) ?_
          have hs0 := hs; clear hs; intro v w hb hR hs; clear hs
          obtain ⟨x11, rfl, hx11, hf11⟩ := hR
          obtain ⟨F11, hs⟩ := hf11.sat hs0 hb; clear hs0 hf11
          have hle11 := Sl.Ok.le (hs.okow (x := x11) (F := F11) (by repeat (first | exact List.mem_cons_self | apply List.mem_cons_of_mem)))
          refine WA.r (i := 14) (by kernel_rfl) (by rfl) (by rfl) (Yl.yr (Yl.slice_sl (s := x11) (l := 1) (h := x11.l.length) slt35 (by rfl) hle11 (by exact ⟨_, by rfl⟩) (by exact rfl) (by rw [hx11]; exact List.length_pos_iff.2 (splitC_ne _ _)) (by exact Nat.le_refl _))) (by rintro _ _ ⟨rfl, rfl⟩; exact hs.only (by repeat (first | exact Sel.nil | (apply Sel.cons; (repeat (first | exact Ext.here | apply Ext.there)))))) ?_
          rintro _ _ ⟨rfl, rfl⟩
          refine WA.p (i := 15) (by rfl) (by kernel_rfl) (by kernel_rfl) (by kernel_rfl) (by rfl) (hs.only (by repeat (first | exact Sel.nil | (apply Sel.cons; (repeat (first | exact Ext.here | apply Ext.there)))))) (fun w hs => Yl.build bt37 (by rfl) (by repeat (first | exact Fill.nil | (apply Fill.cons; rfl; rfl; rfl; repeat (first | (apply SetAt.here; repeat (first | exact Over.nil | apply Over.cons)) | apply SetAt.there))))) ?_
          refine WA.s (i := 17) (by kernel_rfl) (by rfl) (Yr.storeB hs (by rfl) (by rfl) (by rfl) (by repeat (first | exact Repl.here | apply Repl.there)) (by repeat (first | (apply SetAt.here; repeat (first | exact Over.nil | apply Over.cons)) | apply SetAt.there)) (by rfl) (by exact szf37)) (by rintro _ w hs; exact hs.only (by repeat (first | exact Sel.nil | (apply Sel.cons; (repeat (first | exact Ext.here | apply Ext.there)))))) ?_
          clear hs; rintro _ w hs
          refine WA.donen (by kernel_rfl) ?_
          refine WC.seq' ?_
          refine WC.seq ?_
          refine WL.p (by rfl) (Yl.move (by rfl)) ?_
          refine WL.p (by rfl) (Yl.len_sl slu35 (by rfl)) ?_
          refine WL.p (by rfl) (Yl.gtr (by rfl) (by rfl)) ?_
          refine WL.p (by rfl) (Yl.move (by rfl)) ?_
          refine WL.split (d := 34) (by rfl) (fun h3 => ?_) (fun h3 => ?_)
          ·
            replace h3 := of_decide_eq_true h3
            refine WL.run (d := 34) (by rfl) (by rfl) ?_
            refine WL.p (by rfl) (Yl.move (by rfl)) ?_
            refine WL.run (d := 34) (by rfl) (by rfl) ?_
            refine WL.p (by rfl) (Yl.indexAddr (k := 3) slt35 (by rfl) (by rfl) (hs.okow (x := x2) (F := F2) (by repeat (first | exact List.mem_cons_self | apply List.mem_cons_of_mem))) (by rfl) ((getD_some (i := 3) (z := ([] : Str)) (by omega)))) ?_
            refine WL.run (d := 34) (by rfl) (by rfl) ?_
            refine WL.p (by rfl) (Yl.loadC0 sca9 (by rfl) (Sl.Ok.at_ (hs.okow (x := x2) (F := F2) (by repeat (first | exact List.mem_cons_self | apply List.mem_cons_of_mem))) ((getD_some (i := 3) (z := ([] : Str)) (by omega)))).2 (by rfl)) ?_
            refine WL.run (d := 34) (by rfl) (by rfl) ?_
            refine WL.p (by rfl) (Yl.len_str str9 (by rfl)) ?_
            refine WL.run (d := 34) (by rfl) (by rfl) ?_
            refine WL.p (by rfl) (Yl.gtr (by rfl) (by rfl)) ?_
            refine WL.p (by rfl) (Yl.pickT (by rfl) (by rfl)) ?_
            refine WL.next ?_
            refine WC.condS (by rfl) (fun h4 => ?_) (fun h4 => ?_)
            ·
              replace h4 := of_decide_eq_true h4
              refine WC.region ?_
              refine WL.p (by rfl) (Yl.move (by rfl)) ?_
              refine WL.p (by rfl) (Yl.indexAddr (k := 3) slt35 (by rfl) (by rfl) (hs.okow (x := x2) (F := F2) (by repeat (first | exact List.mem_cons_self | apply List.mem_cons_of_mem))) (by rfl) ((getD_some (i := 3) (z := ([] : Str)) (by omega)))) ?_
              refine WL.p (by rfl) (Yl.loadC0 sca9 (by rfl) (Sl.Ok.at_ (hs.okow (x := x2) (F := F2) (by repeat (first | exact List.mem_cons_self | apply List.mem_cons_of_mem))) ((getD_some (i := 3) (z := ([] : Str)) (by omega)))).2 (by rfl)) ?_
              refine WL.p (by rfl) (Yl.slice_str (l := 6) str9 (by rfl) (by exact ⟨_, by rfl⟩) (by exact rfl) (by omega) (by omega)) ?_
              refine WL.p (by rfl) (Yl.fieldAddr fa37_4 (by rfl)) ?_
              refine WL.s (Yr.storeB hs (by rfl) (by rfl) (by rfl) (by repeat (first | exact Repl.here | apply Repl.there)) (by repeat (first | (apply SetAt.here; repeat (first | exact Over.nil | apply Over.cons)) | apply SetAt.there)) (by rfl) (by exact szf9)) ?_
              clear hs; rintro _ w hs
              refine WL.nil ?_
              refine At.then_ ?_
              refine WC.seq' ?_
              refine WC.seq ?_
              refine WL.p (by rfl) (Yl.loadAB agg37 (by rfl) hs (by repeat (first | exact List.mem_cons_self | apply List.mem_cons_of_mem)) (by rfl) (by rfl)) ?_
              have hpl9 : PPolicy.lg (⟨true, (x3.cut 1 x3.l.length), (x10.cut 1 x10.l.length), (x11.cut 1 x11.l.length), (((x2.l.getD 3 []).drop 6).take ((x2.l.getD 3 []).length - 6))⟩ : PPolicy) = polS s := by
                have e2 : x2.l = splitC 59 s := hx2
                have g0 : x3.l = splitC 32 ((splitC 59 s).getD 0 []) := by rw [← e2]; exact hx3
                have g1 : x10.l = splitC 32 ((splitC 59 s).getD 1 []) := by rw [← e2]; exact hx10
                have g2 : x11.l = splitC 32 ((splitC 59 s).getD 2 []) := by rw [← e2]; exact hx11
                have c0 : (x3.cut 1 x3.l.length).l = (splitC 32 ((splitC 59 s).getD 0 [])).tail := by rw [Sl.cut_full, g0, List.drop_one]
                have c1 : (x10.cut 1 x10.l.length).l = (splitC 32 ((splitC 59 s).getD 1 [])).tail := by rw [Sl.cut_full, g1, List.drop_one]
                have c2 : (x11.cut 1 x11.l.length).l = (splitC 32 ((splitC 59 s).getD 2 [])).tail := by rw [Sl.cut_full, g2, List.drop_one]
                simp only [PPolicy.lg, polS, polOf, c0, c1, c2, TPolicy.mk.injEq, true_and]
                rw [← e2]
                first
                  | (rw [if_neg (show ¬ 3 < x2.l.length from fun h => by omega)]; done)
                  | (rw [if_pos (show 3 < x2.l.length from Int.ofNat_lt.1 (by omega))]; done)
                  | (rw [if_pos (show 3 < x2.l.length from Int.ofNat_lt.1 (by omega))]
                     simp only [nonceS, nonceI]
                     first
                       | (rfl; done)
                       | (rw [if_neg (by omega)]; done)
                       | (rw [if_pos (by omega), List.take_of_length_le (by simp)]; done)
                       | (rw [if_pos (by omega)]; done))
              refine WL.callp hs (by rfl) (Yc.func (by rfl) fn58) (c_spec_FormatPolicy (⟨true, (x3.cut 1 x3.l.length), (x10.cut 1 x10.l.length), (x11.cut 1 x11.l.length), (((x2.l.getD 3 []).drop 6).take ((x2.l.getD 3 []).length - 6))⟩ : PPolicy) _ ⟨trivial, (Sl.Ok.cut (hs.okow (x := x3) (F := F3) (by repeat (first | exact List.mem_cons_self | apply List.mem_cons_of_mem))) (by rw [hx3]; exact List.length_pos_iff.2 (splitC_ne _ _)) (by exact Nat.le_refl _)), (Sl.Ok.cut (hs.okow (x := x10) (F := F10) (by repeat (first | exact List.mem_cons_self | apply List.mem_cons_of_mem))) (by rw [hx10]; exact List.length_pos_iff.2 (splitC_ne _ _)) (by exact Nat.le_refl _)), (Sl.Ok.cut (hs.okow (x := x11) (F := F11) (by repeat (first | exact List.mem_cons_self | apply List.mem_cons_of_mem))) (by rw [hx11]; exact List.length_pos_iff.2 (splitC_ne _ _)) (by exact Nat.le_refl _)), (by show WfS _; unfold WfS; simp only [List.length_take, List.length_drop]; omega)⟩ (by rw [hpl9]; have := polS_size (s := s) (by rw [← show x2.l = splitC 59 s from hx2]; omega); omega)) ?_
              clear hs; intro w hs
              refine WL.p (by rfl) (Yl.move (by rfl)) ?_
              refine WL.p (by rfl) (Yl.nes (by rfl) (by rfl)) ?_
              refine WL.next ?_
              refine WC.condS (by rfl) (fun h5 => ?_) (fun h5 => ?_)
              ·
                replace h5 := not_eq_true h5
                replace h5 := of_decide_eq_false h5
                refine WC.seq ?_
                refine WL.p (by rfl) (Yl.build bt37 (by rfl) (by repeat (first | exact Fill.nil | (apply Fill.cons; rfl; rfl; rfl; repeat (first | (apply SetAt.here; repeat (first | exact Over.nil | apply Over.cons)) | apply SetAt.there))))) ?_
                refine WL.s (Yr.storeB hs (by rfl) (by rfl) (by rfl) (by repeat (first | exact Repl.here | apply Repl.there)) (by repeat (first | (apply SetAt.here; repeat (first | exact Over.nil | apply Over.cons)) | apply SetAt.there)) (by rfl) (by exact szf37)) ?_
                clear hs; rintro _ w hs
                refine WL.p (by rfl) (Yl.assign (by rfl)) ?_
                refine WL.next ?_
                refine WC.ret ?_
                refine At.thenret ?_
                refine fin2c rfl agg37 (by rfl) (by rfl) hs (by repeat (first | exact List.mem_cons_self | apply List.mem_cons_of_mem)) (by rfl) ?_
                refine Ret.mk hs ?_
                rw [hpl9] at h5
                have hb9 : policyIs s = false := policyIs_bad h1 h5
                exact ⟨⟨false, ⟨[], none, 0⟩, ⟨[], none, 0⟩, ⟨[], none, 0⟩, []⟩, by rw [hb9]; rfl, (policyOf_no (.inr hb9)).symm, ⟨⟨[], PPolicy.zown _, .nil, fun b h => by cases h⟩⟩⟩
              ·
                replace h5 := not_eq_false h5
                replace h5 := of_decide_eq_true h5
                refine WC.skipn ?_
                refine WC.seq ?_
                refine WL.p (by rfl) (Yl.loadAB agg37 (by rfl) hs (by repeat (first | exact List.mem_cons_self | apply List.mem_cons_of_mem)) (by rfl) (by rfl)) ?_
                refine WL.s (Yr.storeB hs (by rfl) (by rfl) (by rfl) (by repeat (first | exact Repl.here | apply Repl.there)) (by repeat (first | (apply SetAt.here; repeat (first | exact Over.nil | apply Over.cons)) | apply SetAt.there)) (by rfl) (by exact szf37)) ?_
                clear hs; rintro _ w hs
                refine WL.p (by rfl) (Yl.assign (by rfl)) ?_
                refine WL.next ?_
                refine WC.ret ?_
                refine fin2c rfl agg37 (by rfl) (by rfl) hs (by repeat (first | exact List.mem_cons_self | apply List.mem_cons_of_mem)) (by rfl) ?_
                refine Ret.mk hs ?_
                rw [hpl9] at h5
                have hq9 : x2.l = splitC 59 s := hx2
                have h49 : 3 ≤ (splitC 59 s).length := by rw [← hq9]; omega
                have hb9 : policyIs s = true := policyIs_good h5 h49
                obtain ⟨G90, hs⟩ := Sat.cutow (lo := 1) (hi := x3.l.length) (hs.sel (D := [ow x3 F3]) (by repeat (first | exact Sel.nil | (apply Sel.cons; (repeat (first | exact Ext.here | apply Ext.there)))))) (by rw [hx3]; exact List.length_pos_iff.2 (splitC_ne _ _)) (Nat.le_refl _)
                obtain ⟨G91, hs⟩ := Sat.cutow (lo := 1) (hi := x10.l.length) (hs.sel (D := [ow x10 F10]) (by repeat (first | exact Sel.nil | (apply Sel.cons; (repeat (first | exact Ext.here | apply Ext.there)))))) (by rw [hx10]; exact List.length_pos_iff.2 (splitC_ne _ _)) (Nat.le_refl _)
                obtain ⟨G92, hs⟩ := Sat.cutow (lo := 1) (hi := x11.l.length) (hs.sel (D := [ow x11 F11]) (by repeat (first | exact Sel.nil | (apply Sel.cons; (repeat (first | exact Ext.here | apply Ext.there)))))) (by rw [hx11]; exact List.length_pos_iff.2 (splitC_ne _ _)) (Nat.le_refl _)
                refine ⟨(⟨true, (x3.cut 1 x3.l.length), (x10.cut 1 x10.l.length), (x11.cut 1 x11.l.length), (((x2.l.getD 3 []).drop 6).take ((x2.l.getD 3 []).length - 6))⟩ : PPolicy), by rw [hb9]; rfl, hpl9.trans (policyOf_good h1 hb9).symm, ?_⟩
                exact (PPolicy.join _ (hs.only (D := [ow (x3.cut 1 x3.l.length) G90, ow (x10.cut 1 x10.l.length) G91, ow (x11.cut 1 x11.l.length) G92]) (by repeat (first | exact Sel.nil | (apply Sel.cons; (repeat (first | exact Ext.here | apply Ext.there)))))) trivial (by show WfS _; unfold WfS; first | (simp only [List.length_take, List.length_drop]; omega) | simp)).fresh List.mem_cons_self
            ·
              replace h4 := of_decide_eq_false h4
              refine WC.skipn ?_
              refine WC.seq' ?_
              refine WC.seq ?_
              refine WL.p (by rfl) (Yl.loadAB agg37 (by rfl) hs (by repeat (first | exact List.mem_cons_self | apply List.mem_cons_of_mem)) (by rfl) (by rfl)) ?_
              have hpl9 : PPolicy.lg (⟨true, (x3.cut 1 x3.l.length), (x10.cut 1 x10.l.length), (x11.cut 1 x11.l.length), ([] : Str)⟩ : PPolicy) = polS s := by
                have e2 : x2.l = splitC 59 s := hx2
                have g0 : x3.l = splitC 32 ((splitC 59 s).getD 0 []) := by rw [← e2]; exact hx3
                have g1 : x10.l = splitC 32 ((splitC 59 s).getD 1 []) := by rw [← e2]; exact hx10
                have g2 : x11.l = splitC 32 ((splitC 59 s).getD 2 []) := by rw [← e2]; exact hx11
                have c0 : (x3.cut 1 x3.l.length).l = (splitC 32 ((splitC 59 s).getD 0 [])).tail := by rw [Sl.cut_full, g0, List.drop_one]
                have c1 : (x10.cut 1 x10.l.length).l = (splitC 32 ((splitC 59 s).getD 1 [])).tail := by rw [Sl.cut_full, g1, List.drop_one]
                have c2 : (x11.cut 1 x11.l.length).l = (splitC 32 ((splitC 59 s).getD 2 [])).tail := by rw [Sl.cut_full, g2, List.drop_one]
                simp only [PPolicy.lg, polS, polOf, c0, c1, c2, TPolicy.mk.injEq, true_and]
                rw [← e2]
                first
                  | (rw [if_neg (show ¬ 3 < x2.l.length from fun h => by omega)]; done)
                  | (rw [if_pos (show 3 < x2.l.length from Int.ofNat_lt.1 (by omega))]; done)
                  | (rw [if_pos (show 3 < x2.l.length from Int.ofNat_lt.1 (by omega))]
                     simp only [nonceS, nonceI]
                     first
                       | (rfl; done)
                       | (rw [if_neg (by omega)]; done)
                       | (rw [if_pos (by omega), List.take_of_length_le (by simp)]; done)
                       | (rw [if_pos (by omega)]; done))
              refine WL.callp hs (by rfl) (Yc.func (by rfl) fn58) (c_spec_FormatPolicy (⟨true, (x3.cut 1 x3.l.length), (x10.cut 1 x10.l.length), (x11.cut 1 x11.l.length), ([] : Str)⟩ : PPolicy) _ ⟨trivial, (Sl.Ok.cut (hs.okow (x := x3) (F := F3) (by repeat (first | exact List.mem_cons_self | apply List.mem_cons_of_mem))) (by rw [hx3]; exact List.length_pos_iff.2 (splitC_ne _ _)) (by exact Nat.le_refl _)), (Sl.Ok.cut (hs.okow (x := x10) (F := F10) (by repeat (first | exact List.mem_cons_self | apply List.mem_cons_of_mem))) (by rw [hx10]; exact List.length_pos_iff.2 (splitC_ne _ _)) (by exact Nat.le_refl _)), (Sl.Ok.cut (hs.okow (x := x11) (F := F11) (by repeat (first | exact List.mem_cons_self | apply List.mem_cons_of_mem))) (by rw [hx11]; exact List.length_pos_iff.2 (splitC_ne _ _)) (by exact Nat.le_refl _)), (show WfS [] from Nat.zero_le _)⟩ (by rw [hpl9]; have := polS_size (s := s) (by rw [← show x2.l = splitC 59 s from hx2]; omega); omega)) ?_
              clear hs; intro w hs
              refine WL.p (by rfl) (Yl.move (by rfl)) ?_
              refine WL.p (by rfl) (Yl.nes (by rfl) (by rfl)) ?_
              refine WL.next ?_
              refine WC.condS (by rfl) (fun h5 => ?_) (fun h5 => ?_)
              ·
                replace h5 := not_eq_true h5
                replace h5 := of_decide_eq_false h5
                refine WC.seq ?_
                refine WL.p (by rfl) (Yl.build bt37 (by rfl) (by repeat (first | exact Fill.nil | (apply Fill.cons; rfl; rfl; rfl; repeat (first | (apply SetAt.here; repeat (first | exact Over.nil | apply Over.cons)) | apply SetAt.there))))) ?_
                refine WL.s (Yr.storeB hs (by rfl) (by rfl) (by rfl) (by repeat (first | exact Repl.here | apply Repl.there)) (by repeat (first | (apply SetAt.here; repeat (first | exact Over.nil | apply Over.cons)) | apply SetAt.there)) (by rfl) (by exact szf37)) ?_
                clear hs; rintro _ w hs
                refine WL.p (by rfl) (Yl.assign (by rfl)) ?_
                refine WL.next ?_
                refine WC.ret ?_
                refine At.thenret ?_
                refine fin2c rfl agg37 (by rfl) (by rfl) hs (by repeat (first | exact List.mem_cons_self | apply List.mem_cons_of_mem)) (by rfl) ?_
                refine Ret.mk hs ?_
                rw [hpl9] at h5
                have hb9 : policyIs s = false := policyIs_bad h1 h5
                exact ⟨⟨false, ⟨[], none, 0⟩, ⟨[], none, 0⟩, ⟨[], none, 0⟩, []⟩, by rw [hb9]; rfl, (policyOf_no (.inr hb9)).symm, ⟨⟨[], PPolicy.zown _, .nil, fun b h => by cases h⟩⟩⟩
              ·
                replace h5 := not_eq_false h5
                replace h5 := of_decide_eq_true h5
                refine WC.skipn ?_
                refine WC.seq ?_
                refine WL.p (by rfl) (Yl.loadAB agg37 (by rfl) hs (by repeat (first | exact List.mem_cons_self | apply List.mem_cons_of_mem)) (by rfl) (by rfl)) ?_
                refine WL.s (Yr.storeB hs (by rfl) (by rfl) (by rfl) (by repeat (first | exact Repl.here | apply Repl.there)) (by repeat (first | (apply SetAt.here; repeat (first | exact Over.nil | apply Over.cons)) | apply SetAt.there)) (by rfl) (by exact szf37)) ?_
                clear hs; rintro _ w hs
                refine WL.p (by rfl) (Yl.assign (by rfl)) ?_
                refine WL.next ?_
                refine WC.ret ?_
                refine fin2c rfl agg37 (by rfl) (by rfl) hs (by repeat (first | exact List.mem_cons_self | apply List.mem_cons_of_mem)) (by rfl) ?_
                refine Ret.mk hs ?_
                rw [hpl9] at h5
                have hq9 : x2.l = splitC 59 s := hx2
                have h49 : 3 ≤ (splitC 59 s).length := by rw [← hq9]; omega
                have hb9 : policyIs s = true := policyIs_good h5 h49
                obtain ⟨G90, hs⟩ := Sat.cutow (lo := 1) (hi := x3.l.length) (hs.sel (D := [ow x3 F3]) (by repeat (first | exact Sel.nil | (apply Sel.cons; (repeat (first | exact Ext.here | apply Ext.there)))))) (by rw [hx3]; exact List.length_pos_iff.2 (splitC_ne _ _)) (Nat.le_refl _)
                obtain ⟨G91, hs⟩ := Sat.cutow (lo := 1) (hi := x10.l.length) (hs.sel (D := [ow x10 F10]) (by repeat (first | exact Sel.nil | (apply Sel.cons; (repeat (first | exact Ext.here | apply Ext.there)))))) (by rw [hx10]; exact List.length_pos_iff.2 (splitC_ne _ _)) (Nat.le_refl _)
                obtain ⟨G92, hs⟩ := Sat.cutow (lo := 1) (hi := x11.l.length) (hs.sel (D := [ow x11 F11]) (by repeat (first | exact Sel.nil | (apply Sel.cons; (repeat (first | exact Ext.here | apply Ext.there)))))) (by rw [hx11]; exact List.length_pos_iff.2 (splitC_ne _ _)) (Nat.le_refl _)
                refine ⟨(⟨true, (x3.cut 1 x3.l.length), (x10.cut 1 x10.l.length), (x11.cut 1 x11.l.length), ([] : Str)⟩ : PPolicy), by rw [hb9]; rfl, hpl9.trans (policyOf_good h1 hb9).symm, ?_⟩
                exact (PPolicy.join _ (hs.only (D := [ow (x3.cut 1 x3.l.length) G90, ow (x10.cut 1 x10.l.length) G91, ow (x11.cut 1 x11.l.length) G92]) (by repeat (first | exact Sel.nil | (apply Sel.cons; (repeat (first | exact Ext.here | apply Ext.there)))))) trivial (by show WfS _; unfold WfS; first | (simp only [List.length_take, List.length_drop]; omega) | simp)).fresh List.mem_cons_self
          ·
            replace h3 := of_decide_eq_false h3
            refine WL.skip (d := 34) (by rfl) (by rfl) (by rfl) (by rfl) ?_
            refine WL.skip (d := 34) (by rfl) (by rfl) (by rfl) (by rfl) ?_
            refine WL.skip (d := 34) (by rfl) (by rfl) (by rfl) (by rfl) ?_
            refine WL.skip (d := 34) (by rfl) (by rfl) (by rfl) (by rfl) ?_
            refine WL.skip (d := 34) (by rfl) (by rfl) (by rfl) (by rfl) ?_
            refine WL.p (by rfl) (Yl.pickF (by rfl) (by rfl)) ?_
            refine WL.next ?_
            refine WC.condF (by rfl) ?_
            refine WC.skipn ?_
            refine WC.seq' ?_
            refine WC.seq ?_
            refine WL.p (by rfl) (Yl.loadAB agg37 (by rfl) hs (by repeat (first | exact List.mem_cons_self | apply List.mem_cons_of_mem)) (by rfl) (by rfl)) ?_
            have hpl9 : PPolicy.lg (⟨true, (x3.cut 1 x3.l.length), (x10.cut 1 x10.l.length), (x11.cut 1 x11.l.length), ([] : Str)⟩ : PPolicy) = polS s := by
              have e2 : x2.l = splitC 59 s := hx2
              have g0 : x3.l = splitC 32 ((splitC 59 s).getD 0 []) := by rw [← e2]; exact hx3
              have g1 : x10.l = splitC 32 ((splitC 59 s).getD 1 []) := by rw [← e2]; exact hx10
              have g2 : x11.l = splitC 32 ((splitC 59 s).getD 2 []) := by rw [← e2]; exact hx11
              have c0 : (x3.cut 1 x3.l.length).l = (splitC 32 ((splitC 59 s).getD 0 [])).tail := by rw [Sl.cut_full, g0, List.drop_one]
              have c1 : (x10.cut 1 x10.l.length).l = (splitC 32 ((splitC 59 s).getD 1 [])).tail := by rw [Sl.cut_full, g1, List.drop_one]
              have c2 : (x11.cut 1 x11.l.length).l = (splitC 32 ((splitC 59 s).getD 2 [])).tail := by rw [Sl.cut_full, g2, List.drop_one]
              simp only [PPolicy.lg, polS, polOf, c0, c1, c2, TPolicy.mk.injEq, true_and]
              rw [← e2]
              first
                | (rw [if_neg (show ¬ 3 < x2.l.length from fun h => by omega)]; done)
                | (rw [if_pos (show 3 < x2.l.length from Int.ofNat_lt.1 (by omega))]; done)
                | (rw [if_pos (show 3 < x2.l.length from Int.ofNat_lt.1 (by omega))]
                   simp only [nonceS, nonceI]
                   first
                     | (rfl; done)
                     | (rw [if_neg (by omega)]; done)
                     | (rw [if_pos (by omega), List.take_of_length_le (by simp)]; done)
                     | (rw [if_pos (by omega)]; done))
            refine WL.callp hs (by rfl) (Yc.func (by rfl) fn58) (c_spec_FormatPolicy (⟨true, (x3.cut 1 x3.l.length), (x10.cut 1 x10.l.length), (x11.cut 1 x11.l.length), ([] : Str)⟩ : PPolicy) _ ⟨trivial, (Sl.Ok.cut (hs.okow (x := x3) (F := F3) (by repeat (first | exact List.mem_cons_self | apply List.mem_cons_of_mem))) (by rw [hx3]; exact List.length_pos_iff.2 (splitC_ne _ _)) (by exact Nat.le_refl _)), (Sl.Ok.cut (hs.okow (x := x10) (F := F10) (by repeat (first | exact List.mem_cons_self | apply List.mem_cons_of_mem))) (by rw [hx10]; exact List.length_pos_iff.2 (splitC_ne _ _)) (by exact Nat.le_refl _)), (Sl.Ok.cut (hs.okow (x := x11) (F := F11) (by repeat (first | exact List.mem_cons_self | apply List.mem_cons_of_mem))) (by rw [hx11]; exact List.length_pos_iff.2 (splitC_ne _ _)) (by exact Nat.le_refl _)), (show WfS [] from Nat.zero_le _)⟩ (by rw [hpl9]; have := polS_size (s := s) (by rw [← show x2.l = splitC 59 s from hx2]; omega); omega)) ?_
            clear hs; intro w hs
            refine WL.p (by rfl) (Yl.move (by rfl)) ?_
            refine WL.p (by rfl) (Yl.nes (by rfl) (by rfl)) ?_
            refine WL.next ?_
            refine WC.condS (by rfl) (fun h4 => ?_) (fun h4 => ?_)
            ·
              replace h4 := not_eq_true h4
              replace h4 := of_decide_eq_false h4
              refine WC.seq ?_
              refine WL.p (by rfl) (Yl.build bt37 (by rfl) (by repeat (first | exact Fill.nil | (apply Fill.cons; rfl; rfl; rfl; repeat (first | (apply SetAt.here; repeat (first | exact Over.nil | apply Over.cons)) | apply SetAt.there))))) ?_
              refine WL.s (Yr.storeB hs (by rfl) (by rfl) (by rfl) (by repeat (first | exact Repl.here | apply Repl.there)) (by repeat (first | (apply SetAt.here; repeat (first | exact Over.nil | apply Over.cons)) | apply SetAt.there)) (by rfl) (by exact szf37)) ?_
              clear hs; rintro _ w hs
              refine WL.p (by rfl) (Yl.assign (by rfl)) ?_
              refine WL.next ?_
              refine WC.ret ?_
              refine At.thenret ?_
              refine fin2c rfl agg37 (by rfl) (by rfl) hs (by repeat (first | exact List.mem_cons_self | apply List.mem_cons_of_mem)) (by rfl) ?_
              refine Ret.mk hs ?_
              rw [hpl9] at h4
              have hb9 : policyIs s = false := policyIs_bad h1 h4
              exact ⟨⟨false, ⟨[], none, 0⟩, ⟨[], none, 0⟩, ⟨[], none, 0⟩, []⟩, by rw [hb9]; rfl, (policyOf_no (.inr hb9)).symm, ⟨⟨[], PPolicy.zown _, .nil, fun b h => by cases h⟩⟩⟩
            ·
              replace h4 := not_eq_false h4
              replace h4 := of_decide_eq_true h4
              refine WC.skipn ?_
              refine WC.seq ?_
              refine WL.p (by rfl) (Yl.loadAB agg37 (by rfl) hs (by repeat (first | exact List.mem_cons_self | apply List.mem_cons_of_mem)) (by rfl) (by rfl)) ?_
              refine WL.s (Yr.storeB hs (by rfl) (by rfl) (by rfl) (by repeat (first | exact Repl.here | apply Repl.there)) (by repeat (first | (apply SetAt.here; repeat (first | exact Over.nil | apply Over.cons)) | apply SetAt.there)) (by rfl) (by exact szf37)) ?_
              clear hs; rintro _ w hs
              refine WL.p (by rfl) (Yl.assign (by rfl)) ?_
              refine WL.next ?_
              refine WC.ret ?_
              refine fin2c rfl agg37 (by rfl) (by rfl) hs (by repeat (first | exact List.mem_cons_self | apply List.mem_cons_of_mem)) (by rfl) ?_
              refine Ret.mk hs ?_
              rw [hpl9] at h4
              have hq9 : x2.l = splitC 59 s := hx2
              have h49 : 3 ≤ (splitC 59 s).length := by rw [← hq9]; omega
              have hb9 : policyIs s = true := policyIs_good h4 h49
              obtain ⟨G90, hs⟩ := Sat.cutow (lo := 1) (hi := x3.l.length) (hs.sel (D := [ow x3 F3]) (by repeat (first | exact Sel.nil | (apply Sel.cons; (repeat (first | exact Ext.here | apply Ext.there)))))) (by rw [hx3]; exact List.length_pos_iff.2 (splitC_ne _ _)) (Nat.le_refl _)
              obtain ⟨G91, hs⟩ := Sat.cutow (lo := 1) (hi := x10.l.length) (hs.sel (D := [ow x10 F10]) (by repeat (first | exact Sel.nil | (apply Sel.cons; (repeat (first | exact Ext.here | apply Ext.there)))))) (by rw [hx10]; exact List.length_pos_iff.2 (splitC_ne _ _)) (Nat.le_refl _)
              obtain ⟨G92, hs⟩ := Sat.cutow (lo := 1) (hi := x11.l.length) (hs.sel (D := [ow x11 F11]) (by repeat (first | exact Sel.nil | (apply Sel.cons; (repeat (first | exact Ext.here | apply Ext.there)))))) (by rw [hx11]; exact List.length_pos_iff.2 (splitC_ne _ _)) (Nat.le_refl _)
              refine ⟨(⟨true, (x3.cut 1 x3.l.length), (x10.cut 1 x10.l.length), (x11.cut 1 x11.l.length), ([] : Str)⟩ : PPolicy), by rw [hb9]; rfl, hpl9.trans (policyOf_good h1 hb9).symm, ?_⟩
              exact (PPolicy.join _ (hs.only (D := [ow (x3.cut 1 x3.l.length) G90, ow (x10.cut 1 x10.l.length) G91, ow (x11.cut 1 x11.l.length) G92]) (by repeat (first | exact Sel.nil | (apply Sel.cons; (repeat (first | exact Ext.here | apply Ext.there)))))) trivial (by show WfS _; unfold WfS; first | (simp only [List.length_take, List.length_drop]; omega) | simp)).fresh List.mem_cons_self
      ·
        refine WI.r (i := 16) (by rfl) (by rfl) (Yr.alloc hs zt37) (by rintro _ w ⟨b12, rfl, hb, hs⟩; exact hs.only (by repeat (first | exact Sel.nil | (apply Sel.cons; (repeat (first | exact Ext.here | apply Ext.there)))))) ?_
        clear hs; rintro _ w ⟨b12, rfl, hb, hs⟩; clear hb
        refine WA.call2 (i := 3) hs (fun _ hs => hs.only (by repeat (first | exact Sel.nil | (apply Sel.cons; (repeat (first | exact Ext.here | apply Ext.there)))))) (by kernel_rfl) (by rfl) (by rfl) (Yc.func (by rfl) fn50) (c_spec_l5Split _ 32 _ (by first | (have := getD_len (s := s) (i := 0); rw [← show x2.l = splitC 59 s from hx2] at this; omega) | (have := getD_len (s := s) (i := 1); rw [← show x2.l = splitC 59 s from hx2] at this; omega) | (have := getD_len (s := s) (i := 2); rw [← show x2.l = splitC 59 s from hx2] at this; omega) | (have := getD_len (s := s) (i := 3); rw [← show x2.l = splitC 59 s from hx2] at this; omega))) ?_
        have hs0 := hs; clear hs; intro v w hb hR hs; clear hs
        obtain ⟨x13, rfl, hx13, hf13⟩ := hR
        obtain ⟨F13, hs⟩ := hf13.sat hs0 hb; clear hs0 hf13
        have hle13 := Sl.Ok.le (hs.okow (x := x13) (F := F13) (by repeat (first | exact List.mem_cons_self | apply List.mem_cons_of_mem)))
        refine WA.p (i := 4) (by rfl) (by kernel_rfl) (by kernel_rfl) (by kernel_rfl) (by rfl) (hs.only (by repeat (first | exact Sel.nil | (apply Sel.cons; (repeat (first | exact Ext.here | apply Ext.there)))))) (fun w hs => Yl.slice_sl (s := x13) (l := 1) (h := x13.l.length) slt35 (by rfl) hle13 (by exact ⟨_, by rfl⟩) (by exact rfl) (by rw [hx13]; exact List.length_pos_iff.2 (splitC_ne _ _)) (by exact Nat.le_refl _)) ?_
        refine WA.call2 (i := 8) hs (fun _ hs => hs.only (by repeat (first | exact Sel.nil | (apply Sel.cons; (repeat (first | exact Ext.here | apply Ext.there)))))) (by kernel_rfl) (by rfl) (by rfl) (Yc.func (by rfl) fn50) (c_spec_l5Split _ 32 _ (by first | (have := getD_len (s := s) (i := 0); rw [← show x2.l = splitC 59 s from hx2] at this; omega) | (have := getD_len (s := s) (i := 1); rw [← show x2.l = splitC 59 s from hx2] at this; omega) | (have := getD_len (s := s) (i := 2); rw [← show x2.l = splitC 59 s from hx2] at this; omega) | (have := getD_len (s := s) (i := 3); rw [← show x2.l = splitC 59 s from hx2] at this; omega))) ?_
        have hs0 := hs; clear hs; intro v w hb hR hs; clear hs
        obtain ⟨x14, rfl, hx14, hf14⟩ := hR
        obtain ⟨F14, hs⟩ := hf14.sat hs0 hb; clear hs0 hf14
        have hle14 := Sl.Ok.le (hs.okow (x := x14) (F := F14) (by repeat (first | exact List.mem_cons_self | apply List.mem_cons_of_mem)))
        refine WA.p (i := 9) (by rfl) (by kernel_rfl) (by kernel_rfl) (by kernel_rfl) (by rfl) (hs.only (by repeat (first | exact Sel.nil | (apply Sel.cons; (repeat (first | exact Ext.here | apply Ext.there)))))) (fun w hs => Yl.slice_sl (s := x14) (l := 1) (h := x14.l.length) slt35 (by rfl) hle14 (by exact ⟨_, by rfl⟩) (by exact rfl) (by rw [hx14]; exact List.length_pos_iff.2 (splitC_ne _ _)) (by exact Nat.le_refl _)) ?_
        refine WA.call2 (i := 13) hs (fun _ hs => hs.only (by repeat (first | exact Sel.nil | (apply Sel.cons; (repeat (first | exact Ext.here | apply Ext.there)))))) (by kernel_rfl) (by rfl) (by rfl) (Yc.func (by rfl) fn50) (c_spec_l5Split _ 32 _ (by first | (have := getD_len (s := s) (i := 0); rw [← show x2.l = splitC 59 s from hx2] at this; omega) | (have := getD_len (s := s) (i := 1); rw [← show x2.l = splitC 59 s from hx2] at this; omega) | (have := getD_len (s := s) (i := 2); rw [← show x2.l = splitC 59 s from hx2] at this; omega) | (have := getD_len (s := s) (i := 3); rw [← show x2.l = splitC 59 s from hx2] at this; omega))) ?_
        have hs0 := hs; clear hs; intro v w hb hR hs; clear hs
        obtain ⟨x15, rfl, hx15, hf15⟩ := hR
        obtain ⟨F15, hs⟩ := hf15.sat hs0 hb; clear hs0 hf15
        have hle15 := Sl.Ok.le (hs.okow (x := x15) (F := F15) (by repeat (first | exact List.mem_cons_self | apply List.mem_cons_of_mem)))
        refine WA.r (i := 14) (by kernel_rfl) (by rfl) (by rfl) (Yl.yr (Yl.slice_sl (s := x15) (l := 1) (h := x15.l.length) slt35 (by rfl) hle15 (by exact ⟨_, by rfl⟩) (by exact rfl) (by rw [hx15]; exact List.length_pos_iff.2 (splitC_ne _ _)) (by exact Nat.le_refl _))) (by rintro _ _ ⟨rfl, rfl⟩; exact hs.only (by repeat (first | exact Sel.nil | (apply Sel.cons; (repeat (first | exact Ext.here | apply Ext.there)))))) ?_
        rintro _ _ ⟨rfl, rfl⟩
        refine WA.p (i := 15) (by rfl) (by kernel_rfl) (by kernel_rfl) (by kernel_rfl) (by rfl) (hs.only (by repeat (first | exact Sel.nil | (apply Sel.cons; (repeat (first | exact Ext.here | apply Ext.there)))))) (fun w hs => Yl.build bt37 (by rfl) (by repeat (first | exact Fill.nil | (apply Fill.cons; rfl; rfl; rfl; repeat (first | (apply SetAt.here; repeat (first | exact Over.nil | apply Over.cons)) | apply SetAt.there))))) ?_
        refine WA.s (i := 17) (by kernel_rfl) (by rfl) (Yr.storeB hs (by rfl) (by rfl) (by rfl) (by repeat (first | exact Repl.here | apply Repl.there)) (by repeat (first | (apply SetAt.here; repeat (first | exact Over.nil | apply Over.cons)) | apply SetAt.there)) (by rfl) (by exact szf37)) (by rintro _ w hs; exact hs.only (by repeat (first | exact Sel.nil | (apply Sel.cons; (repeat (first | exact Ext.here | apply Ext.there)))))) ?_
        clear hs; rintro _ w hs
        refine WA.donen (by kernel_rfl) ?_
        refine WC.seq' ?_
        refine WC.seq ?_
        refine WL.p (by rfl) (Yl.move (by rfl)) ?_
        refine WL.p (by rfl) (Yl.len_sl slu35 (by rfl)) ?_
        refine WL.p (by rfl) (Yl.gtr (by rfl) (by rfl)) ?_
        refine WL.p (by rfl) (Yl.move (by rfl)) ?_
        refine WL.split (d := 34) (by rfl) (fun h3 => ?_) (fun h3 => ?_)
        ·
          replace h3 := of_decide_eq_true h3
          refine WL.run (d := 34) (by rfl) (by rfl) ?_
          refine WL.p (by rfl) (Yl.move (by rfl)) ?_
          refine WL.run (d := 34) (by rfl) (by rfl) ?_
          refine WL.p (by rfl) (Yl.indexAddr (k := 3) slt35 (by rfl) (by rfl) (hs.okow (x := x2) (F := F2) (by repeat (first | exact List.mem_cons_self | apply List.mem_cons_of_mem))) (by rfl) ((getD_some (i := 3) (z := ([] : Str)) (by omega)))) ?_
          refine WL.run (d := 34) (by rfl) (by rfl) ?_
          refine WL.p (by rfl) (Yl.loadC0 sca9 (by rfl) (Sl.Ok.at_ (hs.okow (x := x2) (F := F2) (by repeat (first | exact List.mem_cons_self | apply List.mem_cons_of_mem))) ((getD_some (i := 3) (z := ([] : Str)) (by omega)))).2 (by rfl)) ?_
          refine WL.run (d := 34) (by rfl) (by rfl) ?_
          refine WL.p (by rfl) (Yl.len_str str9 (by rfl)) ?_
          refine WL.run (d := 34) (by rfl) (by rfl) ?_
          refine WL.p (by rfl) (Yl.gtr (by rfl) (by rfl)) ?_
          refine WL.p (by rfl) (Yl.pickT (by rfl) (by rfl)) ?_
          refine WL.next ?_
          refine WC.condS (by rfl) (fun h4 => ?_) (fun h4 => ?_)
          ·
            replace h4 := of_decide_eq_true h4
            refine WC.region ?_
            refine WL.p (by rfl) (Yl.move (by rfl)) ?_
            refine WL.p (by rfl) (Yl.indexAddr (k := 3) slt35 (by rfl) (by rfl) (hs.okow (x := x2) (F := F2) (by repeat (first | exact List.mem_cons_self | apply List.mem_cons_of_mem))) (by rfl) ((getD_some (i := 3) (z := ([] : Str)) (by omega)))) ?_
            refine WL.p (by rfl) (Yl.loadC0 sca9 (by rfl) (Sl.Ok.at_ (hs.okow (x := x2) (F := F2) (by repeat (first | exact List.mem_cons_self | apply List.mem_cons_of_mem))) ((getD_some (i := 3) (z := ([] : Str)) (by omega)))).2 (by rfl)) ?_
            refine WL.p (by rfl) (Yl.slice_str (l := 6) str9 (by rfl) (by exact ⟨_, by rfl⟩) (by exact rfl) (by omega) (by omega)) ?_
            refine WL.p (by rfl) (Yl.fieldAddr fa37_4 (by rfl)) ?_
            refine WL.s (Yr.storeB hs (by rfl) (by rfl) (by rfl) (by repeat (first | exact Repl.here | apply Repl.there)) (by repeat (first | (apply SetAt.here; repeat (first | exact Over.nil | apply Over.cons)) | apply SetAt.there)) (by rfl) (by exact szf9)) ?_
            clear hs; rintro _ w hs
            refine WL.nil ?_
            refine At.then_ ?_
            refine WC.seq' ?_
            refine WC.seq ?_
            refine WL.p (by rfl) (Yl.loadAB agg37 (by rfl) hs (by repeat (first | exact List.mem_cons_self | apply List.mem_cons_of_mem)) (by rfl) (by rfl)) ?_
            have hpl9 : PPolicy.lg (⟨true, (x13.cut 1 x13.l.length), (x14.cut 1 x14.l.length), (x15.cut 1 x15.l.length), (((x2.l.getD 3 []).drop 6).take ((x2.l.getD 3 []).length - 6))⟩ : PPolicy) = polS s := by
              have e2 : x2.l = splitC 59 s := hx2
              have g0 : x13.l = splitC 32 ((splitC 59 s).getD 0 []) := by rw [← e2]; exact hx13
              have g1 : x14.l = splitC 32 ((splitC 59 s).getD 1 []) := by rw [← e2]; exact hx14
              have g2 : x15.l = splitC 32 ((splitC 59 s).getD 2 []) := by rw [← e2]; exact hx15
              have c0 : (x13.cut 1 x13.l.length).l = (splitC 32 ((splitC 59 s).getD 0 [])).tail := by rw [Sl.cut_full, g0, List.drop_one]
              have c1 : (x14.cut 1 x14.l.length).l = (splitC 32 ((splitC 59 s).getD 1 [])).tail := by rw [Sl.cut_full, g1, List.drop_one]
              have c2 : (x15.cut 1 x15.l.length).l = (splitC 32 ((splitC 59 s).getD 2 [])).tail := by rw [Sl.cut_full, g2, List.drop_one]
              simp only [PPolicy.lg, polS, polOf, c0, c1, c2, TPolicy.mk.injEq, true_and]
              rw [← e2]
              first
                | (rw [if_neg (show ¬ 3 < x2.l.length from fun h => by omega)]; done)
                | (rw [if_pos (show 3 < x2.l.length from Int.ofNat_lt.1 (by omega))]; done)
                | (rw [if_pos (show 3 < x2.l.length from Int.ofNat_lt.1 (by omega))]
                   simp only [nonceS, nonceI]
                   first
                     | (rfl; done)
                     | (rw [if_neg (by omega)]; done)
                     | (rw [if_pos (by omega), List.take_of_length_le (by simp)]; done)
                     | (rw [if_pos (by omega)]; done))
            refine WL.callp hs (by rfl) (Yc.func (by rfl) fn58) (c_spec_FormatPolicy (⟨true, (x13.cut 1 x13.l.length), (x14.cut 1 x14.l.length), (x15.cut 1 x15.l.length), (((x2.l.getD 3 []).drop 6).take ((x2.l.getD 3 []).length - 6))⟩ : PPolicy) _ ⟨trivial, (Sl.Ok.cut (hs.okow (x := x13) (F := F13) (by repeat (first | exact List.mem_cons_self | apply List.mem_cons_of_mem))) (by rw [hx13]; exact List.length_pos_iff.2 (splitC_ne _ _)) (by exact Nat.le_refl _)), (Sl.Ok.cut (hs.okow (x := x14) (F := F14) (by repeat (first | exact List.mem_cons_self | apply List.mem_cons_of_mem))) (by rw [hx14]; exact List.length_pos_iff.2 (splitC_ne _ _)) (by exact Nat.le_refl _)), (Sl.Ok.cut (hs.okow (x := x15) (F := F15) (by repeat (first | exact List.mem_cons_self | apply List.mem_cons_of_mem))) (by rw [hx15]; exact List.length_pos_iff.2 (splitC_ne _ _)) (by exact Nat.le_refl _)), (by show WfS _; unfold WfS; simp only [List.length_take, List.length_drop]; omega)⟩ (by rw [hpl9]; have := polS_size (s := s) (by rw [← show x2.l = splitC 59 s from hx2]; omega); omega)) ?_
            clear hs; intro w hs
            refine WL.p (by rfl) (Yl.move (by rfl)) ?_
            refine WL.p (by rfl) (Yl.nes (by rfl) (by rfl)) ?_
            refine WL.next ?_
            refine WC.condS (by rfl) (fun h5 => ?_) (fun h5 => ?_)
            ·
              replace h5 := not_eq_true h5
              replace h5 := of_decide_eq_false h5
              refine WC.seq ?_
              refine WL.p (by rfl) (Yl.build bt37 (by rfl) (by repeat (first | exact Fill.nil | (apply Fill.cons; rfl; rfl; rfl; repeat (first | (apply SetAt.here; repeat (first | exact Over.nil | apply Over.cons)) | apply SetAt.there))))) ?_
              refine WL.s (Yr.storeB hs (by rfl) (by rfl) (by rfl) (by repeat (first | exact Repl.here | apply Repl.there)) (by repeat (first | (apply SetAt.here; repeat (first | exact Over.nil | apply Over.cons)) | apply SetAt.there)) (by rfl) (by exact szf37)) ?_
              clear hs; rintro _ w hs
              refine WL.p (by rfl) (Yl.assign (by rfl)) ?_
              refine WL.next ?_
              refine WC.ret ?_
              refine At.thenret ?_
              refine fin2c rfl agg37 (by rfl) (by rfl) hs (by repeat (first | exact List.mem_cons_self | apply List.mem_cons_of_mem)) (by rfl) ?_
              refine Ret.mk hs ?_
              rw [hpl9] at h5
              have hb9 : policyIs s = false := policyIs_bad h1 h5
              exact ⟨⟨false, ⟨[], none, 0⟩, ⟨[], none, 0⟩, ⟨[], none, 0⟩, []⟩, by rw [hb9]; rfl, (policyOf_no (.inr hb9)).symm, ⟨⟨[], PPolicy.zown _, .nil, fun b h => by cases h⟩⟩⟩
            ·
              replace h5 := not_eq_false h5
              replace h5 := of_decide_eq_true h5
              refine WC.skipn ?_
              refine WC.seq ?_
              refine WL.p (by rfl) (Yl.loadAB agg37 (by rfl) hs (by repeat (first | exact List.mem_cons_self | apply List.mem_cons_of_mem)) (by rfl) (by rfl)) ?_
              refine WL.s (Yr.storeB hs (by rfl) (by rfl) (by rfl) (by repeat (first | exact Repl.here | apply Repl.there)) (by repeat (first | (apply SetAt.here; repeat (first | exact Over.nil | apply Over.cons)) | apply SetAt.there)) (by rfl) (by exact szf37)) ?_
              clear hs; rintro _ w hs
              refine WL.p (by rfl) (Yl.assign (by rfl)) ?_
              refine WL.next ?_
              refine WC.ret ?_
              refine fin2c rfl agg37 (by rfl) (by rfl) hs (by repeat (first | exact List.mem_cons_self | apply List.mem_cons_of_mem)) (by rfl) ?_
              refine Ret.mk hs ?_
              rw [hpl9] at h5
              have hq9 : x2.l = splitC 59 s := hx2
              have h49 : 3 ≤ (splitC 59 s).length := by rw [← hq9]; omega
              have hb9 : policyIs s = true := policyIs_good h5 h49
              obtain ⟨G90, hs⟩ := Sat.cutow (lo := 1) (hi := x13.l.length) (hs.sel (D := [ow x13 F13]) (by repeat (first | exact Sel.nil | (apply Sel.cons; (repeat (first | exact Ext.here | apply Ext.there)))))) (by rw [hx13]; exact List.length_pos_iff.2 (splitC_ne _ _)) (Nat.le_refl _)
              obtain ⟨G91, hs⟩ := Sat.cutow (lo := 1) (hi := x14.l.length) (hs.sel (D := [ow x14 F14]) (by repeat (first | exact Sel.nil | (apply Sel.cons; (repeat (first | exact Ext.here | apply Ext.there)))))) (by rw [hx14]; exact List.length_pos_iff.2 (splitC_ne _ _)) (Nat.le_refl _)
              obtain ⟨G92, hs⟩ := Sat.cutow (lo := 1) (hi := x15.l.length) (hs.sel (D := [ow x15 F15]) (by repeat (first | exact Sel.nil | (apply Sel.cons; (repeat (first | exact Ext.here | apply Ext.there)))))) (by rw [hx15]; exact List.length_pos_iff.2 (splitC_ne _ _)) (Nat.le_refl _)
              refine ⟨(⟨true, (x13.cut 1 x13.l.length), (x14.cut 1 x14.l.length), (x15.cut 1 x15.l.length), (((x2.l.getD 3 []).drop 6).take ((x2.l.getD 3 []).length - 6))⟩ : PPolicy), by rw [hb9]; rfl, hpl9.trans (policyOf_good h1 hb9).symm, ?_⟩
              exact (PPolicy.join _ (hs.only (D := [ow (x13.cut 1 x13.l.length) G90, ow (x14.cut 1 x14.l.length) G91, ow (x15.cut 1 x15.l.length) G92]) (by repeat (first | exact Sel.nil | (apply Sel.cons; (repeat (first | exact Ext.here | apply Ext.there)))))) trivial (by show WfS _; unfold WfS; first | (simp only [List.length_take, List.length_drop]; omega) | simp)).fresh List.mem_cons_self
          ·
            replace h4 := of_decide_eq_false h4
            refine WC.skipn ?_
            refine WC.seq' ?_
            refine WC.seq ?_
            refine WL.p (by rfl) (Yl.loadAB agg37 (by rfl) hs (by repeat (first | exact List.mem_cons_self | apply List.mem_cons_of_mem)) (by rfl) (by rfl)) ?_
            have hpl9 : PPolicy.lg (⟨true, (x13.cut 1 x13.l.length), (x14.cut 1 x14.l.length), (x15.cut 1 x15.l.length), ([] : Str)⟩ : PPolicy) = polS s := by
              have e2 : x2.l = splitC 59 s := hx2
              have g0 : x13.l = splitC 32 ((splitC 59 s).getD 0 []) := by rw [← e2]; exact hx13
              have g1 : x14.l = splitC 32 ((splitC 59 s).getD 1 []) := by rw [← e2]; exact hx14
              have g2 : x15.l = splitC 32 ((splitC 59 s).getD 2 []) := by rw [← e2]; exact hx15
              have c0 : (x13.cut 1 x13.l.length).l = (splitC 32 ((splitC 59 s).getD 0 [])).tail := by rw [Sl.cut_full, g0, List.drop_one]
              have c1 : (x14.cut 1 x14.l.length).l = (splitC 32 ((splitC 59 s).getD 1 [])).tail := by rw [Sl.cut_full, g1, List.drop_one]
              have c2 : (x15.cut 1 x15.l.length).l = (splitC 32 ((splitC 59 s).getD 2 [])).tail := by rw [Sl.cut_full, g2, List.drop_one]
              simp only [PPolicy.lg, polS, polOf, c0, c1, c2, TPolicy.mk.injEq, true_and]
              rw [← e2]
              first
                | (rw [if_neg (show ¬ 3 < x2.l.length from fun h => by omega)]; done)
                | (rw [if_pos (show 3 < x2.l.length from Int.ofNat_lt.1 (by omega))]; done)
                | (rw [if_pos (show 3 < x2.l.length from Int.ofNat_lt.1 (by omega))]
                   simp only [nonceS, nonceI]
                   first
                     | (rfl; done)
                     | (rw [if_neg (by omega)]; done)
                     | (rw [if_pos (by omega), List.take_of_length_le (by simp)]; done)
                     | (rw [if_pos (by omega)]; done))
            refine WL.callp hs (by rfl) (Yc.func (by rfl) fn58) (c_spec_FormatPolicy (⟨true, (x13.cut 1 x13.l.length), (x14.cut 1 x14.l.length), (x15.cut 1 x15.l.length), ([] : Str)⟩ : PPolicy) _ ⟨trivial, (Sl.Ok.cut (hs.okow (x := x13) (F := F13) (by repeat (first | exact List.mem_cons_self | apply List.mem_cons_of_mem))) (by rw [hx13]; exact List.length_pos_iff.2 (splitC_ne _ _)) (by exact Nat.le_refl _)), (Sl.Ok.cut (hs.okow (x := x14) (F := F14) (by repeat (first | exact List.mem_cons_self | apply List.mem_cons_of_mem))) (by rw [hx14]; exact List.length_pos_iff.2 (splitC_ne _ _)) (by exact Nat.le_refl _)), (Sl.Ok.cut (hs.okow (x := x15) (F := F15) (by repeat (first | exact List.mem_cons_self | apply List.mem_cons_of_mem))) (by rw [hx15]; exact List.length_pos_iff.2 (splitC_ne _ _)) (by exact Nat.le_refl _)), (show WfS [] from Nat.zero_le _)⟩ (by rw [hpl9]; have := polS_size (s := s) (by rw [← show x2.l = splitC 59 s from hx2]; omega); omega)) ?_
            clear hs; intro w hs
            refine WL.p (by rfl) (Yl.move (by rfl)) ?_
            refine WL.p (by rfl) (Yl.nes (by rfl) (by rfl)) ?_
            refine WL.next ?_
            refine WC.condS (by rfl) (fun h5 => ?_) (fun h5 => ?_)
            ·
              replace h5 := not_eq_true h5
              replace h5 := of_decide_eq_false h5
              refine WC.seq ?_
              refine WL.p (by rfl) (Yl.build bt37 (by rfl) (by repeat (first | exact Fill.nil | (apply Fill.cons; rfl; rfl; rfl; repeat (first | (apply SetAt.here; repeat (first | exact Over.nil | apply Over.cons)) | apply SetAt.there))))) ?_
              refine WL.s (Yr.storeB hs (by rfl) (by rfl) (by rfl) (by repeat (first | exact Repl.here | apply Repl.there)) (by repeat (first | (apply SetAt.here; repeat (first | exact Over.nil | apply Over.cons)) | apply SetAt.there)) (by rfl) (by exact szf37)) ?_
              clear hs; rintro _ w hs
              refine WL.p (by rfl) (Yl.assign (by rfl)) ?_
              refine WL.next ?_
              refine WC.ret ?_
              refine At.thenret ?_
              refine fin2c rfl agg37 (by rfl) (by rfl) hs (by repeat (first | exact List.mem_cons_self | apply List.mem_cons_of_mem)) (by rfl) ?_
              refine Ret.mk hs ?_
              rw [hpl9] at h5
              have hb9 : policyIs s = false := policyIs_bad h1 h5
              exact ⟨⟨false, ⟨[], none, 0⟩, ⟨[], none, 0⟩, ⟨[], none, 0⟩, []⟩, by rw [hb9]; rfl, (policyOf_no (.inr hb9)).symm, ⟨⟨[], PPolicy.zown _, .nil, fun b h => by cases h⟩⟩⟩
            ·
              replace h5 := not_eq_false h5
              replace h5 := of_decide_eq_true h5
              refine WC.skipn ?_
              refine WC.seq ?_
              refine WL.p (by rfl) (Yl.loadAB agg37 (by rfl) hs (by repeat (first | exact List.mem_cons_self | apply List.mem_cons_of_mem)) (by rfl) (by rfl)) ?_
              refine WL.s (Yr.storeB hs (by rfl) (by rfl) (by rfl) (by repeat (first | exact Repl.here | apply Repl.there)) (by repeat (first | (apply SetAt.here; repeat (first | exact Over.nil | apply Over.cons)) | apply SetAt.there)) (by rfl) (by exact szf37)) ?_
              clear hs; rintro _ w hs
              refine WL.p (by rfl) (Yl.assign (by rfl)) ?_
              refine WL.next ?_
              refine WC.ret ?_
              refine fin2c rfl agg37 (by rfl) (by rfl) hs (by repeat (first | exact List.mem_cons_self | apply List.mem_cons_of_mem)) (by rfl) ?_
              refine Ret.mk hs ?_
              rw [hpl9] at h5
              have hq9 : x2.l = splitC 59 s := hx2
              have h49 : 3 ≤ (splitC 59 s).length := by rw [← hq9]; omega
              have hb9 : policyIs s = true := policyIs_good h5 h49
              obtain ⟨G90, hs⟩ := Sat.cutow (lo := 1) (hi := x13.l.length) (hs.sel (D := [ow x13 F13]) (by repeat (first | exact Sel.nil | (apply Sel.cons; (repeat (first | exact Ext.here | apply Ext.there)))))) (by rw [hx13]; exact List.length_pos_iff.2 (splitC_ne _ _)) (Nat.le_refl _)
              obtain ⟨G91, hs⟩ := Sat.cutow (lo := 1) (hi := x14.l.length) (hs.sel (D := [ow x14 F14]) (by repeat (first | exact Sel.nil | (apply Sel.cons; (repeat (first | exact Ext.here | apply Ext.there)))))) (by rw [hx14]; exact List.length_pos_iff.2 (splitC_ne _ _)) (Nat.le_refl _)
              obtain ⟨G92, hs⟩ := Sat.cutow (lo := 1) (hi := x15.l.length) (hs.sel (D := [ow x15 F15]) (by repeat (first | exact Sel.nil | (apply Sel.cons; (repeat (first | exact Ext.here | apply Ext.there)))))) (by rw [hx15]; exact List.length_pos_iff.2 (splitC_ne _ _)) (Nat.le_refl _)
              refine ⟨(⟨true, (x13.cut 1 x13.l.length), (x14.cut 1 x14.l.length), (x15.cut 1 x15.l.length), ([] : Str)⟩ : PPolicy), by rw [hb9]; rfl, hpl9.trans (policyOf_good h1 hb9).symm, ?_⟩
              exact (PPolicy.join _ (hs.only (D := [ow (x13.cut 1 x13.l.length) G90, ow (x14.cut 1 x14.l.length) G91, ow (x15.cut 1 x15.l.length) G92]) (by repeat (first | exact Sel.nil | (apply Sel.cons; (repeat (first | exact Ext.here | apply Ext.there)))))) trivial (by show WfS _; unfold WfS; first | (simp only [List.length_take, List.length_drop]; omega) | simp)).fresh List.mem_cons_self
        ·
          replace h3 := of_decide_eq_false h3
          refine WL.skip (d := 34) (by rfl) (by rfl) (by rfl) (by rfl) ?_
          refine WL.skip (d := 34) (by rfl) (by rfl) (by rfl) (by rfl) ?_
          refine WL.skip (d := 34) (by rfl) (by rfl) (by rfl) (by rfl) ?_
          refine WL.skip (d := 34) (by rfl) (by rfl) (by rfl) (by rfl) ?_
          refine WL.skip (d := 34) (by rfl) (by rfl) (by rfl) (by rfl) ?_
          refine WL.p (by rfl) (Yl.pickF (by rfl) (by rfl)) ?_
          refine WL.next ?_
          refine WC.condF (by rfl) ?_
          refine WC.skipn ?_
          refine WC.seq' ?_
          refine WC.seq ?_
          refine WL.p (by rfl) (Yl.loadAB agg37 (by rfl) hs (by repeat (first | exact List.mem_cons_self | apply List.mem_cons_of_mem)) (by rfl) (by rfl)) ?_
          have hpl9 : PPolicy.lg (⟨true, (x13.cut 1 x13.l.length), (x14.cut 1 x14.l.length), (x15.cut 1 x15.l.length), ([] : Str)⟩ : PPolicy) = polS s := by
            have e2 : x2.l = splitC 59 s := hx2
            have g0 : x13.l = splitC 32 ((splitC 59 s).getD 0 []) := by rw [← e2]; exact hx13
            have g1 : x14.l = splitC 32 ((splitC 59 s).getD 1 []) := by rw [← e2]; exact hx14
            have g2 : x15.l = splitC 32 ((splitC 59 s).getD 2 []) := by rw [← e2]; exact hx15
            have c0 : (x13.cut 1 x13.l.length).l = (splitC 32 ((splitC 59 s).getD 0 [])).tail := by rw [Sl.cut_full, g0, List.drop_one]
            have c1 : (x14.cut 1 x14.l.length).l = (splitC 32 ((splitC 59 s).getD 1 [])).tail := by rw [Sl.cut_full, g1, List.drop_one]
            have c2 : (x15.cut 1 x15.l.length).l = (splitC 32 ((splitC 59 s).getD 2 [])).tail := by rw [Sl.cut_full, g2, List.drop_one]
            simp only [PPolicy.lg, polS, polOf, c0, c1, c2, TPolicy.mk.injEq, true_and]
            rw [← e2]
            first
              | (rw [if_neg (show ¬ 3 < x2.l.length from fun h => by omega)]; done)
              | (rw [if_pos (show 3 < x2.l.length from Int.ofNat_lt.1 (by omega))]; done)
              | (rw [if_pos (show 3 < x2.l.length from Int.ofNat_lt.1 (by omega))]
                 simp only [nonceS, nonceI]
                 first
                   | (rfl; done)
                   | (rw [if_neg (by omega)]; done)
                   | (rw [if_pos (by omega), List.take_of_length_le (by simp)]; done)
                   | (rw [if_pos (by omega)]; done))
          refine WL.callp hs (by rfl) (Yc.func (by rfl) fn58) (c_spec_FormatPolicy (⟨true, (x13.cut 1 x13.l.length), (x14.cut 1 x14.l.length), (x15.cut 1 x15.l.length), ([] : Str)⟩ : PPolicy) _ ⟨trivial, (Sl.Ok.cut (hs.okow (x := x13) (F := F13) (by repeat (first | exact List.mem_cons_self | apply List.mem_cons_of_mem))) (by rw [hx13]; exact List.length_pos_iff.2 (splitC_ne _ _)) (by exact Nat.le_refl _)), (Sl.Ok.cut (hs.okow (x := x14) (F := F14) (by repeat (first | exact List.mem_cons_self | apply List.mem_cons_of_mem))) (by rw [hx14]; exact List.length_pos_iff.2 (splitC_ne _ _)) (by exact Nat.le_refl _)), (Sl.Ok.cut (hs.okow (x := x15) (F := F15) (by repeat (first | exact List.mem_cons_self | apply List.mem_cons_of_mem))) (by rw [hx15]; exact List.length_pos_iff.2 (splitC_ne _ _)) (by exact Nat.le_refl _)), (show WfS [] from Nat.zero_le _)⟩ (by rw [hpl9]; have := polS_size (s := s) (by rw [← show x2.l = splitC 59 s from hx2]; omega); omega)) ?_
          clear hs; intro w hs
          refine WL.p (by rfl) (Yl.move (by rfl)) ?_
          refine WL.p (by rfl) (Yl.nes (by rfl) (by rfl)) ?_
          refine WL.next ?_
          refine WC.condS (by rfl) (fun h4 => ?_) (fun h4 => ?_)
          ·
            replace h4 := not_eq_true h4
            replace h4 := of_decide_eq_false h4
            refine WC.seq ?_
            refine WL.p (by rfl) (Yl.build bt37 (by rfl) (by repeat (first | exact Fill.nil | (apply Fill.cons; rfl; rfl; rfl; repeat (first | (apply SetAt.here; repeat (first | exact Over.nil | apply Over.cons)) | apply SetAt.there))))) ?_
            refine WL.s (Yr.storeB hs (by rfl) (by rfl) (by rfl) (by repeat (first | exact Repl.here | apply Repl.there)) (by repeat (first | (apply SetAt.here; repeat (first | exact Over.nil | apply Over.cons)) | apply SetAt.there)) (by rfl) (by exact szf37)) ?_
            clear hs; rintro _ w hs
            refine WL.p (by rfl) (Yl.assign (by rfl)) ?_
            refine WL.next ?_
            refine WC.ret ?_
            refine At.thenret ?_
            refine fin2c rfl agg37 (by rfl) (by rfl) hs (by repeat (first | exact List.mem_cons_self | apply List.mem_cons_of_mem)) (by rfl) ?_
            refine Ret.mk hs ?_
            rw [hpl9] at h4
            have hb9 : policyIs s = false := policyIs_bad h1 h4
            exact ⟨⟨false, ⟨[], none, 0⟩, ⟨[], none, 0⟩, ⟨[], none, 0⟩, []⟩, by rw [hb9]; rfl, (policyOf_no (.inr hb9)).symm, ⟨⟨[], PPolicy.zown _, .nil, fun b h => by cases h⟩⟩⟩
          ·
            replace h4 := not_eq_false h4
            replace h4 := of_decide_eq_true h4
            refine WC.skipn ?_
            refine WC.seq ?_
            refine WL.p (by rfl) (Yl.loadAB agg37 (by rfl) hs (by repeat (first | exact List.mem_cons_self | apply List.mem_cons_of_mem)) (by rfl) (by rfl)) ?_
            refine WL.s (Yr.storeB hs (by rfl) (by rfl) (by rfl) (by repeat (first | exact Repl.here | apply Repl.there)) (by repeat (first | (apply SetAt.here; repeat (first | exact Over.nil | apply Over.cons)) | apply SetAt.there)) (by rfl) (by exact szf37)) ?_
            clear hs; rintro _ w hs
            refine WL.p (by rfl) (Yl.assign (by rfl)) ?_
            refine WL.next ?_
            refine WC.ret ?_
            refine fin2c rfl agg37 (by rfl) (by rfl) hs (by repeat (first | exact List.mem_cons_self | apply List.mem_cons_of_mem)) (by rfl) ?_
            refine Ret.mk hs ?_
            rw [hpl9] at h4
            have hq9 : x2.l = splitC 59 s := hx2
            have h49 : 3 ≤ (splitC 59 s).length := by rw [← hq9]; omega
            have hb9 : policyIs s = true := policyIs_good h4 h49
            obtain ⟨G90, hs⟩ := Sat.cutow (lo := 1) (hi := x13.l.length) (hs.sel (D := [ow x13 F13]) (by repeat (first | exact Sel.nil | (apply Sel.cons; (repeat (first | exact Ext.here | apply Ext.there)))))) (by rw [hx13]; exact List.length_pos_iff.2 (splitC_ne _ _)) (Nat.le_refl _)
            obtain ⟨G91, hs⟩ := Sat.cutow (lo := 1) (hi := x14.l.length) (hs.sel (D := [ow x14 F14]) (by repeat (first | exact Sel.nil | (apply Sel.cons; (repeat (first | exact Ext.here | apply Ext.there)))))) (by rw [hx14]; exact List.length_pos_iff.2 (splitC_ne _ _)) (Nat.le_refl _)
            obtain ⟨G92, hs⟩ := Sat.cutow (lo := 1) (hi := x15.l.length) (hs.sel (D := [ow x15 F15]) (by repeat (first | exact Sel.nil | (apply Sel.cons; (repeat (first | exact Ext.here | apply Ext.there)))))) (by rw [hx15]; exact List.length_pos_iff.2 (splitC_ne _ _)) (Nat.le_refl _)
            refine ⟨(⟨true, (x13.cut 1 x13.l.length), (x14.cut 1 x14.l.length), (x15.cut 1 x15.l.length), ([] : Str)⟩ : PPolicy), by rw [hb9]; rfl, hpl9.trans (policyOf_good h1 hb9).symm, ?_⟩
            exact (PPolicy.join _ (hs.only (D := [ow (x13.cut 1 x13.l.length) G90, ow (x14.cut 1 x14.l.length) G91, ow (x15.cut 1 x15.l.length) G92]) (by repeat (first | exact Sel.nil | (apply Sel.cons; (repeat (first | exact Ext.here | apply Ext.there)))))) trivial (by show WfS _; unfold WfS; first | (simp only [List.length_take, List.length_drop]; omega) | simp)).fresh List.mem_cons_self

theorem c_spec_IsResponse (x : TResponse) (w : World) (h_x : Ph.ok w x) (hb : x.policy.length ≤ 1048576) : Calls Tryd.prog 17 [.agg #[I x.status, I x.kind, S x.body, I x.age, Bo x.shares, S x.policy]].toArray w (RetP w (Bo x.isv)) := by
  refine enterN 33 Tryd.func17 rfl rfl rfl ?_
  have hs := Sat.start w
  refine WC.seq ?_
  refine WL.r (by rfl) (Yr.box hs (by rfl) (by rfl)) ?_
  clear hs; rintro _ w ⟨b1, rfl, hb, hs⟩; clear hb
  refine WL.p (by rfl) (Yl.assign (by rfl)) ?_
  refine WL.next ?_
  refine WC.seq ?_
  refine WL.p (by rfl) (Yl.fieldAddr fa32_5 (by rfl)) ?_
  refine WL.p (by rfl) (Yl.loadB sca9 (by rfl) hs (by repeat (first | exact List.mem_cons_self | apply List.mem_cons_of_mem)) (by rfl)) ?_
  refine WL.call hs (by rfl) (Yc.func (by rfl) fn20) (c_spec_ParsePolicy _ _ (by first | assumption | omega | (simp only [lsz] at *; omega) | (simp only [lsz, strsz, TPolicy.size, TCache.size, TAddr.size, TRequest.size, TEntry.size, TResponse.size, TLine.size] at *; omega) | (simp only [lsz_map, TPage.size, TBuilder.size, TNode.size, TToken.size, TTokenizer.size, TServer.size, TFile.size, TNet.size, TCache.size, TSheet.size, strsz] at *; omega) | (simp only [lsz_map, TPage.size, TBuilder.size, TNode.size, TToken.size, TTokenizer.size, TServer.size, TFile.size, TNet.size, TCache.size, TSheet.size, strsz, lsz] at *; omega))) ?_
  have hs0 := hs; clear hs; intro v w hb hR hs; clear hs
  obtain ⟨x2, rfl, hx2, hf2⟩ := hR
  obtain ⟨F2, hs⟩ := hf2.sat hs0 hb; clear hs0 hf2
  refine WL.p (by rfl) (Yl.move (by rfl)) ?_
  refine WL.p (by rfl) (Yl.extract (by rfl) (by rfl)) ?_
  refine WL.p (by rfl) (Yl.extract (by rfl) (by rfl)) ?_
  refine WL.r (by rfl) (Yr.alloc hs zt37) ?_
  clear hs; rintro _ w ⟨b3, rfl, hb, hs⟩; clear hb
  refine WL.s (Yr.storeB hs (by rfl) (by rfl) (by rfl) (by repeat (first | exact Repl.here | apply Repl.there)) (by repeat (first | (apply SetAt.here; repeat (first | exact Over.nil | apply Over.cons)) | apply SetAt.there)) (by rfl) (by exact szf37)) ?_
  clear hs; rintro _ w hs
  refine WL.p (by rfl) (Yl.assign (by rfl)) ?_
  refine WL.next ?_
  refine WC.seq ?_
  refine WL.p (by rfl) (Yl.fieldAddr fa32_0 (by rfl)) ?_
  refine WL.p (by rfl) (Yl.loadB sca3 (by rfl) hs (by repeat (first | exact List.mem_cons_self | apply List.mem_cons_of_mem)) (by rfl)) ?_
  refine WL.callp hs (by rfl) (Yc.func (by rfl) fn56) (c_spec_l1In _ _ _ _) ?_
  clear hs; intro w hs
  refine WL.p (by rfl) (Yl.move (by rfl)) ?_
  refine WL.split (d := 14) (by rfl) (fun h1 => ?_) (fun h1 => ?_)
  ·
    replace h1 := inR_true.1 h1
    refine WL.run (d := 14) (by rfl) (by rfl) ?_
    refine WL.p (by rfl) (Yl.fieldAddr fa32_1 (by rfl)) ?_
    refine WL.run (d := 14) (by rfl) (by rfl) ?_
    refine WL.p (by rfl) (Yl.loadB sca3 (by rfl) hs (by repeat (first | exact List.mem_cons_self | apply List.mem_cons_of_mem)) (by rfl)) ?_
    refine WL.run (d := 14) (by rfl) (by rfl) ?_
    refine WL.callp hs (by rfl) (Yc.func (by rfl) fn56) (c_spec_l1In _ _ _ _) ?_
    clear hs; intro w hs
    refine WL.p (by rfl) (Yl.pickT (by rfl) (by rfl)) ?_
    refine WL.p (by rfl) (Yl.move (by rfl)) ?_
    refine WL.split (d := 19) (by rfl) (fun h2 => ?_) (fun h2 => ?_)
    ·
      replace h2 := inR_true.1 h2
      refine WL.run (d := 19) (by rfl) (by rfl) ?_
      refine WL.p (by rfl) (Yl.fieldAddr fa32_2 (by rfl)) ?_
      refine WL.run (d := 19) (by rfl) (by rfl) ?_
      refine WL.p (by rfl) (Yl.loadB sca9 (by rfl) hs (by repeat (first | exact List.mem_cons_self | apply List.mem_cons_of_mem)) (by rfl)) ?_
      refine WL.run (d := 19) (by rfl) (by rfl) ?_
      refine WL.p (by rfl) (Yl.len_str str9 (by rfl)) ?_
      refine WL.run (d := 19) (by rfl) (by rfl) ?_
      refine WL.p (by rfl) (Yl.leq (by rfl) (by rfl)) ?_
      refine WL.p (by rfl) (Yl.pickT (by rfl) (by rfl)) ?_
      refine WL.p (by rfl) (Yl.move (by rfl)) ?_
      refine WL.split (d := 25) (by rfl) (fun h3 => ?_) (fun h3 => ?_)
      ·
        replace h3 := of_decide_eq_true h3
        refine WL.run (d := 25) (by rfl) (by rfl) ?_
        refine WL.p (by rfl) (Yl.fieldAddr fa32_3 (by rfl)) ?_
        refine WL.run (d := 25) (by rfl) (by rfl) ?_
        refine WL.p (by rfl) (Yl.loadB sca3 (by rfl) hs (by repeat (first | exact List.mem_cons_self | apply List.mem_cons_of_mem)) (by rfl)) ?_
        refine WL.run (d := 25) (by rfl) (by rfl) ?_
        refine WL.callp hs (by rfl) (Yc.func (by rfl) fn56) (c_spec_l1In _ _ _ _) ?_
        clear hs; intro w hs
        refine WL.p (by rfl) (Yl.pickT (by rfl) (by rfl)) ?_
        refine WL.p (by rfl) (Yl.move (by rfl)) ?_
        refine WL.split (d := 30) (by rfl) (fun h4 => ?_) (fun h4 => ?_)
        ·
          replace h4 := inR_true.1 h4
          refine WL.run (d := 30) (by rfl) (by rfl) ?_
          refine WL.p (by rfl) (Yl.move (by rfl)) ?_
          refine WL.p (by rfl) (Yl.pickT (by rfl) (by rfl)) ?_
          refine WL.p (by rfl) (Yl.assign (by rfl)) ?_
          refine WL.next ?_
          refine WC.ret ?_
          refine fin1' rfl (by rfl) ?_
          refine RetP.mk hs ?_
          clear hs hb h_x
          try simp only [← inR_true] at *
          try simp only [← inR_false] at *
          simp_all [TResponse.isv]
          try (intro hh; omega)
        ·
          replace h4 := inR_false.1 h4
          refine WL.skip (d := 30) (by rfl) (by rfl) (by rfl) (by rfl) ?_
          refine WL.p (by rfl) (Yl.pickF (by rfl) (by rfl)) ?_
          refine WL.p (by rfl) (Yl.assign (by rfl)) ?_
          refine WL.next ?_
          refine WC.ret ?_
          refine fin1' rfl (by rfl) ?_
          refine RetP.mk hs ?_
          clear hs hb h_x
          try simp only [← inR_true] at *
          try simp only [← inR_false] at *
          simp_all [TResponse.isv]
          try (intro hh; omega)
      ·
        replace h3 := of_decide_eq_false h3
        refine WL.skip (d := 25) (by rfl) (by rfl) (by rfl) (by rfl) ?_
        refine WL.skip (d := 25) (by rfl) (by rfl) (by rfl) (by rfl) ?_
        refine WL.skip (d := 25) (by rfl) (by rfl) (by rfl) (by rfl) ?_
        refine WL.p (by rfl) (Yl.pickF (by rfl) (by rfl)) ?_
        refine WL.p (by rfl) (Yl.move (by rfl)) ?_
        refine WL.skip (d := 30) (by rfl) (by rfl) (by rfl) (by rfl) ?_
        refine WL.p (by rfl) (Yl.pickF (by rfl) (by rfl)) ?_
        refine WL.p (by rfl) (Yl.assign (by rfl)) ?_
        refine WL.next ?_
        refine WC.ret ?_
        refine fin1' rfl (by rfl) ?_
        refine RetP.mk hs ?_
        clear hs hb h_x
        try simp only [← inR_true] at *
        try simp only [← inR_false] at *
        simp_all [TResponse.isv]
        try (intro hh; omega)
    ·
      replace h2 := inR_false.1 h2
      refine WL.skip (d := 19) (by rfl) (by rfl) (by rfl) (by rfl) ?_
      refine WL.skip (d := 19) (by rfl) (by rfl) (by rfl) (by rfl) ?_
      refine WL.skip (d := 19) (by rfl) (by rfl) (by rfl) (by rfl) ?_
      refine WL.skip (d := 19) (by rfl) (by rfl) (by rfl) (by rfl) ?_
      refine WL.p (by rfl) (Yl.pickF (by rfl) (by rfl)) ?_
      refine WL.p (by rfl) (Yl.move (by rfl)) ?_
      refine WL.skip (d := 25) (by rfl) (by rfl) (by rfl) (by rfl) ?_
      refine WL.skip (d := 25) (by rfl) (by rfl) (by rfl) (by rfl) ?_
      refine WL.skip (d := 25) (by rfl) (by rfl) (by rfl) (by rfl) ?_
      refine WL.p (by rfl) (Yl.pickF (by rfl) (by rfl)) ?_
      refine WL.p (by rfl) (Yl.move (by rfl)) ?_
      refine WL.skip (d := 30) (by rfl) (by rfl) (by rfl) (by rfl) ?_
      refine WL.p (by rfl) (Yl.pickF (by rfl) (by rfl)) ?_
      refine WL.p (by rfl) (Yl.assign (by rfl)) ?_
      refine WL.next ?_
      refine WC.ret ?_
      refine fin1' rfl (by rfl) ?_
      refine RetP.mk hs ?_
      clear hs hb h_x
      try simp only [← inR_true] at *
      try simp only [← inR_false] at *
      simp_all [TResponse.isv]
      try (intro hh; omega)
  ·
    replace h1 := inR_false.1 h1
    refine WL.skip (d := 14) (by rfl) (by rfl) (by rfl) (by rfl) ?_
    refine WL.skip (d := 14) (by rfl) (by rfl) (by rfl) (by rfl) ?_
    refine WL.skip (d := 14) (by rfl) (by rfl) (by rfl) (by rfl) ?_
    refine WL.p (by rfl) (Yl.pickF (by rfl) (by rfl)) ?_
    refine WL.p (by rfl) (Yl.move (by rfl)) ?_
    refine WL.skip (d := 19) (by rfl) (by rfl) (by rfl) (by rfl) ?_
    refine WL.skip (d := 19) (by rfl) (by rfl) (by rfl) (by rfl) ?_
    refine WL.skip (d := 19) (by rfl) (by rfl) (by rfl) (by rfl) ?_
    refine WL.skip (d := 19) (by rfl) (by rfl) (by rfl) (by rfl) ?_
    refine WL.p (by rfl) (Yl.pickF (by rfl) (by rfl)) ?_
    refine WL.p (by rfl) (Yl.move (by rfl)) ?_
    refine WL.skip (d := 25) (by rfl) (by rfl) (by rfl) (by rfl) ?_
    refine WL.skip (d := 25) (by rfl) (by rfl) (by rfl) (by rfl) ?_
    refine WL.skip (d := 25) (by rfl) (by rfl) (by rfl) (by rfl) ?_
    refine WL.p (by rfl) (Yl.pickF (by rfl) (by rfl)) ?_
    refine WL.p (by rfl) (Yl.move (by rfl)) ?_
    refine WL.skip (d := 30) (by rfl) (by rfl) (by rfl) (by rfl) ?_
    refine WL.p (by rfl) (Yl.pickF (by rfl) (by rfl)) ?_
    refine WL.p (by rfl) (Yl.assign (by rfl)) ?_
    refine WL.next ?_
    refine WC.ret ?_
    refine fin1' rfl (by rfl) ?_
    refine RetP.mk hs ?_
    clear hs hb h_x
    try simp only [← inR_true] at *
    try simp only [← inR_false] at *
    simp_all [TResponse.isv]
    try (intro hh; omega)

end Go.Sw
