/- Walks: what each function of the program returns, for every input. Printed by gen.py. -/
import Derived.Test.YtfjojpmfoingpaaFx
set_option linter.all false
namespace Go.Sw
open Go Go.RowKit Go.Proofs

theorem c_laws_szAddr (a : TAddr) (left : Int) (w : World) (h_a : Ph.ok w a) (hl0 : 0 ≤ left) (hl1 : left ≤ 1048576) : Calls Try.prog 29 [.agg #[S a.host, S a.path], I left].toArray w (RetP w (I (lessN left a.size))) := by
  have hb0 : a.host.length ≤ 9223372036854775807 := h_a.host
  have hb1 : a.path.length ≤ 9223372036854775807 := h_a.path
  refine enterN 20 Try.func29 rfl rfl rfl ?_
  have hs := Sat.start w
  refine WC.seq ?_
  refine WL.r (by rfl) (Yr.box hs (by rfl) (by rfl)) ?_
  clear hs; rintro _ w ⟨b1, rfl, hb, hs⟩; clear hb
  refine WL.p (by rfl) (Yl.assign (by rfl)) ?_
  refine WL.next ?_
  refine WC.seq ?_
  refine WL.p (by rfl) (Yl.move (by rfl)) ?_
  refine WL.p (by rfl) (Yl.fieldAddr fa39_0 (by rfl)) ?_
  refine WL.p (by rfl) (Yl.loadB sca9 (by rfl) hs (by repeat (first | exact List.mem_cons_self | apply List.mem_cons_of_mem)) (by rfl)) ?_
  refine WL.p (by rfl) (Yl.len_str str9 (by rfl)) ?_
  refine WL.p (by rfl) (Yl.sub_ (by rfl) (by rfl) (by omega)) ?_
  refine WL.p (by rfl) (Yl.assign (by rfl)) ?_
  refine WL.next ?_
  refine WC.seq' ?_
  refine WC.seq ?_
  refine WL.p (by rfl) (Yl.move (by rfl)) ?_
  refine WL.p (by rfl) (Yl.lss (by rfl) (by rfl)) ?_
  refine WL.next ?_
  refine WC.condS (by rfl) (fun h1 => ?_) (fun h1 => ?_)
  ·
    replace h1 := of_decide_eq_true h1
    refine WC.seq ?_
    refine WL.p (by rfl) (Yl.assign (by rfl)) ?_
    refine WL.next ?_
    refine WC.ret ?_
    refine At.thenret ?_
    refine fin1' rfl (by rfl) ?_
    refine RetP.mk hs ?_
    first
      | (rw [lessN_lt (left := left) (n := a.size) (by simp only [TAddr.size]; omega)]; done)
      | (rw [lessN_ge (left := left) (n := a.size) (by simp only [TAddr.size]; omega)]; try exact congrArg I (by simp only [TAddr.size] <;> omega))
  ·
    replace h1 := of_decide_eq_false h1
    refine WC.skipn ?_
    refine WC.seq ?_
    refine WL.p (by rfl) (Yl.move (by rfl)) ?_
    refine WL.p (by rfl) (Yl.fieldAddr fa39_1 (by rfl)) ?_
    refine WL.p (by rfl) (Yl.loadB sca9 (by rfl) hs (by repeat (first | exact List.mem_cons_self | apply List.mem_cons_of_mem)) (by rfl)) ?_
    refine WL.p (by rfl) (Yl.len_str str9 (by rfl)) ?_
    refine WL.p (by rfl) (Yl.sub_ (by rfl) (by rfl) (by omega)) ?_
    refine WL.p (by rfl) (Yl.assign (by rfl)) ?_
    refine WL.next ?_
    refine WC.seq' ?_
    refine WC.seq ?_
    refine WL.p (by rfl) (Yl.move (by rfl)) ?_
    refine WL.p (by rfl) (Yl.lss (by rfl) (by rfl)) ?_
    refine WL.next ?_
    refine WC.condS (by rfl) (fun h2 => ?_) (fun h2 => ?_)
    ·
      replace h2 := of_decide_eq_true h2
      refine WC.seq ?_
      refine WL.p (by rfl) (Yl.assign (by rfl)) ?_
      refine WL.next ?_
      refine WC.ret ?_
      refine At.thenret ?_
      refine fin1' rfl (by rfl) ?_
      refine RetP.mk hs ?_
      first
        | (rw [lessN_lt (left := left) (n := a.size) (by simp only [TAddr.size]; omega)]; done)
        | (rw [lessN_ge (left := left) (n := a.size) (by simp only [TAddr.size]; omega)]; try exact congrArg I (by simp only [TAddr.size] <;> omega))
    ·
      replace h2 := of_decide_eq_false h2
      refine WC.skipn ?_
      refine WC.seq ?_
      refine WL.p (by rfl) (Yl.move (by rfl)) ?_
      refine WL.p (by rfl) (Yl.assign (by rfl)) ?_
      refine WL.next ?_
      refine WC.ret ?_
      refine fin1' rfl (by rfl) ?_
      refine RetP.mk hs ?_
      first
        | (rw [lessN_lt (left := left) (n := a.size) (by simp only [TAddr.size]; omega)]; done)
        | (rw [lessN_ge (left := left) (n := a.size) (by simp only [TAddr.size]; omega)]; try exact congrArg I (by simp only [TAddr.size] <;> omega))

theorem c_laws_szResponse (a : TResponse) (left : Int) (w : World) (h_a : Ph.ok w a) (hl0 : 0 ≤ left) (hl1 : left ≤ 1048576) : Calls Try.prog 169 [.agg #[I a.status, I a.kind, S a.body, I a.age, Bo a.shares, S a.policy], I left].toArray w (RetP w (I (lessN left a.size))) := by
  have hb1 := h_a.body; have hb2 := h_a.policy; simp only [Ph.ok, WfS] at hb1 hb2
  refine enterN 20 Try.func169 rfl rfl rfl ?_
  have hs := Sat.start w
  refine WC.seq ?_
  refine WL.r (by rfl) (Yr.box hs (by rfl) (by rfl)) ?_
  clear hs; rintro _ w ⟨b1, rfl, hb, hs⟩; clear hb
  refine WL.p (by rfl) (Yl.assign (by rfl)) ?_
  refine WL.next ?_
  refine WC.seq ?_
  refine WL.p (by rfl) (Yl.move (by rfl)) ?_
  refine WL.p (by rfl) (Yl.fieldAddr fa188_2 (by rfl)) ?_
  refine WL.p (by rfl) (Yl.loadB sca9 (by rfl) hs (by repeat (first | exact List.mem_cons_self | apply List.mem_cons_of_mem)) (by rfl)) ?_
  refine WL.p (by rfl) (Yl.len_str str9 (by rfl)) ?_
  refine WL.p (by rfl) (Yl.sub_ (by rfl) (by rfl) (by omega)) ?_
  refine WL.p (by rfl) (Yl.assign (by rfl)) ?_
  refine WL.next ?_
  refine WC.seq' ?_
  refine WC.seq ?_
  refine WL.p (by rfl) (Yl.move (by rfl)) ?_
  refine WL.p (by rfl) (Yl.lss (by rfl) (by rfl)) ?_
  refine WL.next ?_
  refine WC.condS (by rfl) (fun h1 => ?_) (fun h1 => ?_)
  ·
    replace h1 := of_decide_eq_true h1
    refine WC.seq ?_
    refine WL.p (by rfl) (Yl.assign (by rfl)) ?_
    refine WL.next ?_
    refine WC.ret ?_
    refine At.thenret ?_
    refine fin1' rfl (by rfl) ?_
    refine RetP.mk hs ?_
    first
      | (rw [lessN_lt (left := left) (n := a.size) (by simp only [TResponse.size]; omega)]; done)
      | (rw [lessN_ge (left := left) (n := a.size) (by simp only [TResponse.size]; omega)]; try exact congrArg I (by simp only [TResponse.size] <;> omega))
  ·
    replace h1 := of_decide_eq_false h1
    refine WC.skipn ?_
    refine WC.seq ?_
    refine WL.p (by rfl) (Yl.move (by rfl)) ?_
    refine WL.p (by rfl) (Yl.fieldAddr fa188_5 (by rfl)) ?_
    refine WL.p (by rfl) (Yl.loadB sca9 (by rfl) hs (by repeat (first | exact List.mem_cons_self | apply List.mem_cons_of_mem)) (by rfl)) ?_
    refine WL.p (by rfl) (Yl.len_str str9 (by rfl)) ?_
    refine WL.p (by rfl) (Yl.sub_ (by rfl) (by rfl) (by omega)) ?_
    refine WL.p (by rfl) (Yl.assign (by rfl)) ?_
    refine WL.next ?_
    refine WC.seq' ?_
    refine WC.seq ?_
    refine WL.p (by rfl) (Yl.move (by rfl)) ?_
    refine WL.p (by rfl) (Yl.lss (by rfl) (by rfl)) ?_
    refine WL.next ?_
    refine WC.condS (by rfl) (fun h2 => ?_) (fun h2 => ?_)
    ·
      replace h2 := of_decide_eq_true h2
      refine WC.seq ?_
      refine WL.p (by rfl) (Yl.assign (by rfl)) ?_
      refine WL.next ?_
      refine WC.ret ?_
      refine At.thenret ?_
      refine fin1' rfl (by rfl) ?_
      refine RetP.mk hs ?_
      first
        | (rw [lessN_lt (left := left) (n := a.size) (by simp only [TResponse.size]; omega)]; done)
        | (rw [lessN_ge (left := left) (n := a.size) (by simp only [TResponse.size]; omega)]; try exact congrArg I (by simp only [TResponse.size] <;> omega))
    ·
      replace h2 := of_decide_eq_false h2
      refine WC.skipn ?_
      refine WC.seq ?_
      refine WL.p (by rfl) (Yl.move (by rfl)) ?_
      refine WL.p (by rfl) (Yl.assign (by rfl)) ?_
      refine WL.next ?_
      refine WC.ret ?_
      refine fin1' rfl (by rfl) ?_
      refine RetP.mk hs ?_
      first
        | (rw [lessN_lt (left := left) (n := a.size) (by simp only [TResponse.size]; omega)]; done)
        | (rw [lessN_ge (left := left) (n := a.size) (by simp only [TResponse.size]; omega)]; try exact congrArg I (by simp only [TResponse.size] <;> omega))

theorem c_laws_szEntry (a : TEntry) (left : Int) (w : World) (h_a : Ph.ok w a) (hl0 : 0 ≤ left) (hl1 : left ≤ 1048576) : Calls Try.prog 142 [.agg #[S a.top, S a.to.host, S a.to.path, I a.response.status, I a.response.kind, S a.response.body, I a.response.age, Bo a.response.shares, S a.response.policy, I a.until_], I left].toArray w (RetP w (I (lessN left a.size))) := by
  have hb0 : a.top.length ≤ 9223372036854775807 := h_a.top
  refine enterN 25 Try.func142 rfl rfl rfl ?_
  have hs := Sat.start w
  refine WC.seq ?_
  refine WL.r (by rfl) (Yr.box hs (by rfl) (by rfl)) ?_
  clear hs; rintro _ w ⟨b1, rfl, hb, hs⟩; clear hb
  refine WL.p (by rfl) (Yl.assign (by rfl)) ?_
  refine WL.next ?_
  refine WC.seq ?_
  refine WL.p (by rfl) (Yl.move (by rfl)) ?_
  refine WL.p (by rfl) (Yl.fieldAddr fa190_0 (by rfl)) ?_
  refine WL.p (by rfl) (Yl.loadB sca9 (by rfl) hs (by repeat (first | exact List.mem_cons_self | apply List.mem_cons_of_mem)) (by rfl)) ?_
  refine WL.p (by rfl) (Yl.len_str str9 (by rfl)) ?_
  refine WL.p (by rfl) (Yl.sub_ (by rfl) (by rfl) (by omega)) ?_
  refine WL.p (by rfl) (Yl.assign (by rfl)) ?_
  refine WL.next ?_
  refine WC.seq' ?_
  refine WC.seq ?_
  refine WL.p (by rfl) (Yl.move (by rfl)) ?_
  refine WL.p (by rfl) (Yl.lss (by rfl) (by rfl)) ?_
  refine WL.next ?_
  refine WC.condS (by rfl) (fun h1 => ?_) (fun h1 => ?_)
  ·
    replace h1 := of_decide_eq_true h1
    refine WC.seq ?_
    refine WL.p (by rfl) (Yl.assign (by rfl)) ?_
    refine WL.next ?_
    refine WC.ret ?_
    refine At.thenret ?_
    refine fin1' rfl (by rfl) ?_
    refine RetP.mk hs ?_
    first
      | (rw [lessN_lt (left := left) (n := a.size) (by simp only [TEntry.size]; omega)]; done)
      | (rw [lessN_ge (left := left) (n := a.size) (by simp only [TEntry.size]; omega)]; try exact congrArg I (by simp only [TEntry.size] <;> omega))
  ·
    replace h1 := of_decide_eq_false h1
    refine WC.skipn ?_
    refine WC.seq ?_
    refine WL.p (by rfl) (Yl.fieldAddr fa190_1 (by rfl)) ?_
    refine WL.p (by rfl) (Yl.loadAB agg39 (by rfl) hs (by repeat (first | exact List.mem_cons_self | apply List.mem_cons_of_mem)) (by rfl) (by rfl)) ?_
    refine WL.p (by rfl) (Yl.move (by rfl)) ?_
    refine WL.callp hs (by rfl) (Yc.func (by rfl) fn29) (c_laws_szAddr _ _ _ ⟨(Ph.old h_a.to.host hs), (Ph.old h_a.to.path hs)⟩ (by first | assumption | omega | (simp only [TEntry.size]; omega)) (by first | assumption | omega | (simp only [TEntry.size]; omega))) ?_
    clear hs; intro w hs
    refine WL.p (by rfl) (Yl.assign (by rfl)) ?_
    refine WL.next ?_
    refine WC.seq' ?_
    refine WC.seq ?_
    refine WL.p (by rfl) (Yl.move (by rfl)) ?_
    refine WL.p (by rfl) (Yl.lss (by rfl) (by rfl)) ?_
    refine WL.next ?_
    refine WC.condS (by rfl) (fun h2 => ?_) (fun h2 => ?_)
    ·
      replace h2 := lessN_neg (of_decide_eq_true h2)
      refine WC.seq ?_
      refine WL.p (by rfl) (Yl.assign (by rfl)) ?_
      refine WL.next ?_
      refine WC.ret ?_
      refine At.thenret ?_
      refine fin1' rfl (by rfl) ?_
      refine RetP.mk hs ?_
      first
        | (rw [lessN_lt (left := left) (n := a.size) (by simp only [TEntry.size]; omega)]; done)
        | (rw [lessN_ge (left := left) (n := a.size) (by simp only [TEntry.size]; omega)]; try exact congrArg I (by simp only [TEntry.size] <;> omega))
    ·
      replace h2 := lessN_nn (by omega) (of_decide_eq_false h2)
      refine WC.skipn ?_
      refine WC.seq ?_
      refine WL.p (by rfl) (Yl.fieldAddr fa190_2 (by rfl)) ?_
      refine WL.p (by rfl) (Yl.loadAB agg188 (by rfl) hs (by repeat (first | exact List.mem_cons_self | apply List.mem_cons_of_mem)) (by rfl) (by rfl)) ?_
      refine WL.p (by rfl) (Yl.move (by rfl)) ?_
      refine WL.callp hs (by rfl) (Yc.func (by rfl) fn169) (c_laws_szResponse _ _ _ ⟨(Ph.old h_a.response.status hs), (Ph.old h_a.response.kind hs), (Ph.old h_a.response.body hs), (Ph.old h_a.response.age hs), (Ph.old h_a.response.shares hs), (Ph.old h_a.response.policy hs)⟩ (by first | assumption | omega | (simp only [TEntry.size]; omega)) (by first | assumption | omega | (simp only [TEntry.size]; omega))) ?_
      clear hs; intro w hs
      refine WL.p (by rfl) (Yl.assign (by rfl)) ?_
      refine WL.next ?_
      refine WC.seq' ?_
      refine WC.seq ?_
      refine WL.p (by rfl) (Yl.move (by rfl)) ?_
      refine WL.p (by rfl) (Yl.lss (by rfl) (by rfl)) ?_
      refine WL.next ?_
      refine WC.condS (by rfl) (fun h3 => ?_) (fun h3 => ?_)
      ·
        replace h3 := lessN_neg (of_decide_eq_true h3)
        refine WC.seq ?_
        refine WL.p (by rfl) (Yl.assign (by rfl)) ?_
        refine WL.next ?_
        refine WC.ret ?_
        refine At.thenret ?_
        refine fin1' rfl (by rfl) ?_
        refine RetP.mk hs ?_
        first
          | (rw [lessN_lt (left := left) (n := a.size) (by simp only [TEntry.size]; omega)]; done)
          | (rw [lessN_ge (left := left) (n := a.size) (by simp only [TEntry.size]; omega)]; try exact congrArg I (by simp only [TEntry.size] <;> omega))
      ·
        replace h3 := lessN_nn (by omega) (of_decide_eq_false h3)
        refine WC.skipn ?_
        refine WC.seq ?_
        refine WL.p (by rfl) (Yl.move (by rfl)) ?_
        refine WL.p (by rfl) (Yl.assign (by rfl)) ?_
        refine WL.next ?_
        refine WC.ret ?_
        refine fin1' rfl (by rfl) ?_
        refine RetP.mk hs ?_
        first
          | (rw [lessN_lt (left := left) (n := a.size) (by simp only [TEntry.size]; omega)]; done)
          | (rw [lessN_ge (left := left) (n := a.size) (by simp only [TEntry.size]; omega)]; try exact congrArg I (by simp only [TEntry.size] <;> omega))

theorem c_laws_szEntryS (a : (Sl TEntry)) (left : Int) (w : World) (h_a : Ph.ok w a) (hl0 : 0 ≤ left) (hl1 : left ≤ 1048576) : Calls Try.prog 87 [Sl.v a, I left].toArray w (RetP w (I (lessN left (lsz TEntry.size a.l)))) := by
  have hw := h_a.lt
  refine enterN 27 Try.func87 rfl rfl rfl ?_
  have hs := Sat.start w
  refine WC.seq ?_
  refine WL.p (by rfl) (Yl.assign (by rfl)) ?_
  refine WL.next ?_
  refine WC.seq ?_
  refine WL.p (by rfl) (Yl.move (by rfl)) ?_
  refine WL.p (by rfl) (Yl.move (by rfl)) ?_
  refine WL.p (by rfl) (Yl.len_sl slu56 (by rfl)) ?_
  refine WL.p (by rfl) (Yl.sub_ (by rfl) (by rfl) (by omega)) ?_
  refine WL.p (by rfl) (Yl.assign (by rfl)) ?_
  refine WL.next ?_
  refine WC.seq' ?_
  refine WC.seq ?_
  refine WL.p (by rfl) (Yl.move (by rfl)) ?_
  refine WL.p (by rfl) (Yl.lss (by rfl) (by rfl)) ?_
  refine WL.next ?_
  refine WC.condS (by rfl) (fun h1 => ?_) (fun h1 => ?_)
  ·
    replace h1 := of_decide_eq_true h1
    refine WC.seq ?_
    refine WL.p (by rfl) (Yl.assign (by rfl)) ?_
    refine WL.next ?_
    refine WC.ret ?_
    refine At.thenret ?_
    refine fin1' rfl (by rfl) ?_
    refine RetP.mk hs ?_
    rw [lessN_lt (by simp only [lsz]; omega)]
  ·
    replace h1 := of_decide_eq_false h1
    refine WC.skipn ?_
    refine WC.seq' ?_
    refine WC.seq ?_
    refine WL.p (by rfl) (Yl.assign (by rfl)) ?_
    refine WL.next ?_
    refine WC.block ?_
    refine WC.loopC (ι := Nat × Int) (fun ⟨k, l⟩ => a.l.length - k) (fun ⟨k, l⟩ => [(5, I (k : Int)), (1, I l)]) (fun _ => []) (fun ⟨k, l⟩ => 0 ≤ l ∧ l ≤ 1048576 ∧ lessN l (lsum TEntry.size (a.l.drop k)) = lessN left (lsz TEntry.size a.l)) [(0, _), (6, _), (7, _), (8, _), (9, _), (10, _), (11, _)] (0, left - (a.l.length : Int)) (hs) ⟨by rfl, by rfl, by rfl, by rfl, by rfl, by rfl, by rfl, trivial⟩ ⟨by rfl, by rfl, trivial⟩ ?_ ?_
    ·
      refine ⟨by omega, by omega, ?_⟩
      rw [List.drop_zero, lsz, lessN_sub (by omega)]
    clear hs; rintro ⟨k, l⟩ w ⟨hJ1, hJ2, hJ3⟩ hs
    simp only [List.nil_append] at hs
    refine WC.seq' ?_
    refine WC.seq ?_
    refine WL.p (by rfl) (Yl.move (by rfl)) ?_
    refine WL.p (by rfl) (Yl.move (by rfl)) ?_
    refine WL.p (by rfl) (Yl.len_sl slu56 (by rfl)) ?_
    refine WL.p (by rfl) (Yl.lss (by rfl) (by rfl)) ?_
    refine WL.next ?_
    refine WC.condS (by rfl) (fun h2 => ?_) (fun h2 => ?_)
    ·
      replace h2 := of_decide_eq_true h2
      obtain ⟨d, hd⟩ := exists_get (l := a.l) (k := k) (by omega)
      rw [drop_cons hd, lsum_cons] at hJ3
      refine WC.skipn ?_
      refine WC.seq' ?_
      refine WC.block ?_
      refine WC.seq ?_
      refine WL.p (by rfl) (Yl.move (by rfl)) ?_
      refine WL.p (by rfl) (Yl.move (by rfl)) ?_
      refine WL.p (by rfl) (Yl.indexAddr slt56 (by rfl) (by rfl) (Ph.old h_a hs) (by rfl) (hd)) ?_
      refine WL.p (by rfl) (Yl.loadA agg190 (by rfl) (Sl.Ok.at_ (Ph.old h_a hs) (by assumption)).2 (by rfl)) ?_
      refine WL.p (by rfl) (Yl.move (by rfl)) ?_
      refine WL.callp hs (by rfl) (Yc.func (by rfl) fn142) (c_laws_szEntry _ _ _ (Ph.old (Sl.Ok.elem h_a hd) hs) (by first | assumption | omega | (simp only [lsz] at *; omega) | (simp only [lsz, strsz, TPolicy.size, TCache.size, TAddr.size, TRequest.size, TEntry.size, TResponse.size, TLine.size] at *; omega) | (simp only [lsz_map, TPage.size, TBuilder.size, TNode.size, TToken.size, TTokenizer.size, TServer.size, TFile.size, TNet.size, TCache.size, TSheet.size, strsz] at *; omega) | (simp only [lsz_map, TPage.size, TBuilder.size, TNode.size, TToken.size, TTokenizer.size, TServer.size, TFile.size, TNet.size, TCache.size, TSheet.size, strsz, lsz] at *; omega)) (by first | assumption | omega | (simp only [lsz] at *; omega) | (simp only [lsz, strsz, TPolicy.size, TCache.size, TAddr.size, TRequest.size, TEntry.size, TResponse.size, TLine.size] at *; omega) | (simp only [lsz_map, TPage.size, TBuilder.size, TNode.size, TToken.size, TTokenizer.size, TServer.size, TFile.size, TNet.size, TCache.size, TSheet.size, strsz] at *; omega) | (simp only [lsz_map, TPage.size, TBuilder.size, TNode.size, TToken.size, TTokenizer.size, TServer.size, TFile.size, TNet.size, TCache.size, TSheet.size, strsz, lsz] at *; omega))) ?_
      clear hs; intro w hs
      refine WL.p (by rfl) (Yl.assign (by rfl)) ?_
      refine WL.next ?_
      refine WC.seq ?_
      refine WL.p (by rfl) (Yl.move (by rfl)) ?_
      refine WL.p (by rfl) (Yl.lss (by rfl) (by rfl)) ?_
      refine WL.next ?_
      refine WC.condS (by rfl) (fun h3 => ?_) (fun h3 => ?_)
      ·
        replace h3 := lessN_neg (of_decide_eq_true h3)
        refine WC.seq ?_
        refine WL.p (by rfl) (Yl.assign (by rfl)) ?_
        refine WL.next ?_
        refine WC.ret ?_
        refine At.blockret ?_
        refine At.thenret ?_
        refine At.thenret ?_
        refine At.blockret ?_
        refine At.thenret ?_
        refine fin1' rfl (by rfl) ?_
        refine RetP.mk hs ?_
        rw [← hJ3, lessN_add_lt h3]
      ·
        replace h3 := lessN_nn (by omega) (of_decide_eq_false h3)
        refine WC.skip ?_
        refine At.blocknormal ?_
        refine At.then_ ?_
        refine WC.region ?_
        refine WL.p (by rfl) (Yl.move (by rfl)) ?_
        refine WL.p (by rfl) (Yl.add (by rfl) (by rfl) (by omega)) ?_
        refine WL.p (by rfl) (Yl.assign (by rfl)) ?_
        refine WL.nil ?_
        refine At.roundC (k + 1, lessN l (TEntry.size d)) (hs.only (by repeat (first | exact Sel.nil | (apply Sel.cons; (repeat (first | exact Ext.here | apply Ext.there)))))) ⟨by rfl, by rfl, by rfl, by rfl, by rfl, by rfl, by rfl, trivial⟩ ⟨by rfl, by rfl, trivial⟩ ?_ ?_
        ·
          show a.l.length - (k + 1) < a.l.length - k
          omega
        ·
          simp only [h3.2]
          refine ⟨by omega, by omega, ?_⟩
          rw [lessN_sub (by omega), hJ3]
    ·
      replace h2 := of_decide_eq_false h2
      rw [drop_out (l := a.l) (by omega), lsum_nil] at hJ3
      refine WC.exit ?_
      refine At.thenexit ?_
      refine At.thenexit ?_
      refine At.blockexit ?_
      refine At.then_ ?_
      refine WC.seq ?_
      refine WL.p (by rfl) (Yl.move (by rfl)) ?_
      refine WL.p (by rfl) (Yl.assign (by rfl)) ?_
      refine WL.next ?_
      refine WC.ret ?_
      refine fin1' rfl (by rfl) ?_
      refine RetP.mk hs ?_
      rw [← hJ3, lessN_zero hJ1]

theorem c_laws_szCache (a : PCache) (left : Int) (w : World) (h_a : Ph.ok w a) (hl0 : 0 ≤ left) (hl1 : left ≤ 1048576) : Calls Try.prog 34 [.agg #[Sl.v a.entries], I left].toArray w (RetP w (I (lessN left a.lg.size))) := by
  refine enterN 12 Try.func34 rfl rfl rfl ?_
  have hs := Sat.start w
  refine WC.seq ?_
  refine WL.r (by rfl) (Yr.box hs (by rfl) (by rfl)) ?_
  clear hs; rintro _ w ⟨b1, rfl, hb, hs⟩; clear hb
  refine WL.p (by rfl) (Yl.assign (by rfl)) ?_
  refine WL.next ?_
  refine WC.seq ?_
  refine WL.p (by rfl) (Yl.fieldAddr fa58_0 (by rfl)) ?_
  refine WL.p (by rfl) (Yl.loadB sca56 (by rfl) hs (by repeat (first | exact List.mem_cons_self | apply List.mem_cons_of_mem)) (by rfl)) ?_
  refine WL.p (by rfl) (Yl.move (by rfl)) ?_
  refine WL.callp hs (by rfl) (Yc.func (by rfl) fn87) (c_laws_szEntryS _ _ _ (Ph.old h_a.entries hs) (by first | assumption | omega | (simp only [TCache.size]; omega)) (by first | assumption | omega | (simp only [TCache.size]; omega))) ?_
  clear hs; intro w hs
  refine WL.p (by rfl) (Yl.assign (by rfl)) ?_
  refine WL.next ?_
  refine WC.seq' ?_
  refine WC.seq ?_
  refine WL.p (by rfl) (Yl.move (by rfl)) ?_
  refine WL.p (by rfl) (Yl.lss (by rfl) (by rfl)) ?_
  refine WL.next ?_
  refine WC.condS (by rfl) (fun h1 => ?_) (fun h1 => ?_)
  ·
    replace h1 := lessN_neg (of_decide_eq_true h1)
    refine WC.seq ?_
    refine WL.p (by rfl) (Yl.assign (by rfl)) ?_
    refine WL.next ?_
    refine WC.ret ?_
    refine At.thenret ?_
    refine fin1' rfl (by rfl) ?_
    refine RetP.mk hs ?_
    first
      | (rw [lessN_lt (left := left) (n := a.lg.size) (by simp only [TCache.size]; omega)]; done)
      | (rw [lessN_ge (left := left) (n := a.lg.size) (by simp only [TCache.size]; omega)]; try exact congrArg I (by simp only [TCache.size] <;> omega))
  ·
    replace h1 := lessN_nn (by omega) (of_decide_eq_false h1)
    refine WC.skipn ?_
    refine WC.seq ?_
    refine WL.p (by rfl) (Yl.move (by rfl)) ?_
    refine WL.p (by rfl) (Yl.assign (by rfl)) ?_
    refine WL.next ?_
    refine WC.ret ?_
    refine fin1' rfl (by rfl) ?_
    refine RetP.mk hs ?_
    first
      | (rw [lessN_lt (left := left) (n := a.lg.size) (by simp only [TCache.size]; omega)]; done)
      | (rw [lessN_ge (left := left) (n := a.lg.size) (by simp only [TCache.size]; omega)]; try exact congrArg I (by simp only [TCache.size] <;> omega))

theorem c_spec_ForgetHost (c : PCache) (top : Str) (w : World) (h_c : Ph.ok w c) (hb : c.lg.size ≤ 1048576) : Calls Try.prog 35 [.agg #[Sl.v c.entries], S top].toArray w (Ret w (fun v w' => ∃ x : PCache, v = .agg (Ph.enc x).toArray ∧ x.lg = c.lg.forget top ∧ Fresh w x w')) := by
  have hw := h_c.entries.lt
  have hlen : c.entries.l.length ≤ 1048576 := by simp only [TCache.size, lsz] at hb; omega
  refine enterN 34 Try.func35 rfl rfl rfl ?_
  have hs := Sat.start w
  refine WC.seq ?_
  refine WL.r (by rfl) (Yr.box hs (by rfl) (by rfl)) ?_
  clear hs; rintro _ w ⟨b1, rfl, hb, hs⟩; clear hb
  refine WL.r (by rfl) (Yr.alloc hs zt62) ?_
  clear hs; rintro _ w ⟨b2, rfl, hb, hs⟩; clear hb
  refine WL.next ?_
  refine WC.seq ?_
  refine WL.p (by rfl) (Yl.build bt62 (by rfl) (by repeat (first | exact Fill.nil | (apply Fill.cons; rfl; rfl; rfl; repeat (first | (apply SetAt.here; repeat (first | exact Over.nil | apply Over.cons)) | apply SetAt.there))))) ?_
  refine WL.r (by rfl) (Yr.alloc hs zt62) ?_
  clear hs; rintro _ w ⟨b3, rfl, hb, hs⟩; clear hb
  refine WL.s (Yr.storeB hs (by rfl) (by rfl) (by rfl) (by repeat (first | exact Repl.here | apply Repl.there)) (by repeat (first | (apply SetAt.here; repeat (first | exact Over.nil | apply Over.cons)) | apply SetAt.there)) (by rfl) (by exact szf62)) ?_
  clear hs; rintro _ w hs
  refine WL.next ?_
  refine WC.seq' ?_
  refine WC.seq ?_
  refine WL.p (by rfl) (Yl.assign (by rfl)) ?_
  refine WL.next ?_
  refine WC.block ?_
  replace hs := Sat.nilsl (α := TEntry) hs
  refine WC.loopC (ι := Nat × Sl TEntry × List Nat) (fun ⟨k, s, F⟩ => c.entries.l.length - k) (fun ⟨k, s, F⟩ => [(6, I (k : Int))]) (fun ⟨k, s, F⟩ => [box b3 62 [Sl.v s], ow s F]) (fun ⟨k, s, F⟩ => k ≤ c.entries.l.length ∧ s.l = (c.entries.l.take k).filter (fun e => !decide (e.top = top))) [(0, _), (1, _), (2, _), (4, _), (5, _), (7, _)] (0, ⟨[], none, 0⟩, []) (hs.sel (D := [box b3 62 _, ow (⟨[], none, 0⟩ : Sl TEntry) []]) (by repeat (first | exact Sel.nil | (apply Sel.cons; (repeat (first | exact Ext.here | apply Ext.there)))))) ⟨by rfl, by rfl, by rfl, by rfl, by rfl, by rfl, trivial⟩ ⟨by rfl, trivial⟩ ?_ ?_
  ·
    exact ⟨Nat.zero_le _, rfl⟩
  clear hs; rintro ⟨k, s, F⟩ w ⟨hJ1, hJ2⟩ hs
  simp only [List.cons_append, List.nil_append] at hs
  refine WC.seq' ?_
  refine WC.seq ?_
  refine WL.p (by rfl) (Yl.move (by rfl)) ?_
  refine WL.p (by rfl) (Yl.fieldAddr fa62_0 (by rfl)) ?_
  refine WL.p (by rfl) (Yl.loadB sca60 (by rfl) hs (by repeat (first | exact List.mem_cons_self | apply List.mem_cons_of_mem)) (by rfl)) ?_
  refine WL.p (by rfl) (Yl.len_sl slu60 (by rfl)) ?_
  refine WL.p (by rfl) (Yl.lss (by rfl) (by rfl)) ?_
  refine WL.next ?_
  refine WC.condS (by rfl) (fun h1 => ?_) (fun h1 => ?_)
  ·
    replace h1 := of_decide_eq_true h1
    obtain ⟨d, hd⟩ := exists_get (l := c.entries.l) (k := k) (by omega)
    refine WC.skipn ?_
    refine WC.seq' ?_
    refine WC.block ?_
    refine WC.seq ?_
    refine WL.p (by rfl) (Yl.fieldAddr fa62_0 (by rfl)) ?_
    refine WL.p (by rfl) (Yl.loadB sca60 (by rfl) hs (by repeat (first | exact List.mem_cons_self | apply List.mem_cons_of_mem)) (by rfl)) ?_
    refine WL.p (by rfl) (Yl.move (by rfl)) ?_
    refine WL.p (by rfl) (Yl.indexAddr slt60 (by rfl) (by rfl) (Ph.old h_c.entries hs) (by rfl) (hd)) ?_
    refine WL.p (by rfl) (Yl.fieldAddr fa138_0 (by rfl)) ?_
    refine WL.p (by rfl) (Yl.loadC sca9 (by rfl) (Sl.Ok.at_ (Ph.old h_c.entries hs) (by assumption)).2 (by rfl)) ?_
    refine WL.p (by rfl) (Yl.move (by rfl)) ?_
    refine WL.p (by rfl) (Yl.nes (by rfl) (by rfl)) ?_
    refine WL.next ?_
    refine WC.condS (by rfl) (fun h2 => ?_) (fun h2 => ?_)
    ·
      replace h2 := not_eq_true h2
      replace h2 := of_decide_eq_false h2
      refine WC.anyX (K := [box b3 _ _, ow s F]) mixed hs (by repeat (first | exact Sel.nil | (apply Sel.cons; (repeat (first | exact Ext.here | apply Ext.there))))) ?_
      clear hs; intro w hs
      refine WA.p (i := 0) (by rfl) (by kernel_rfl) (by kernel_rfl) (by kernel_rfl) (by rfl) (hs.only (by repeat (first | exact Sel.nil | (apply Sel.cons; (repeat (first | exact Ext.here | apply Ext.there)))))) (fun w hs => Yl.fieldAddr fa62_0 (by rfl)) ?_
      refine WA.p (i := 2) (by rfl) (by kernel_rfl) (by kernel_rfl) (by kernel_rfl) (by rfl) (hs.only (by repeat (first | exact Sel.nil | (apply Sel.cons; (repeat (first | exact Ext.here | apply Ext.there)))))) (fun w hs => Yl.fieldAddr fa62_0 (by rfl)) ?_
      refine WA.p (i := 3) (by rfl) (by kernel_rfl) (by kernel_rfl) (by kernel_rfl) (by rfl) (hs.only (by repeat (first | exact Sel.nil | (apply Sel.cons; (repeat (first | exact Ext.here | apply Ext.there)))))) (fun w hs => Yl.loadB sca60 (by rfl) hs (by repeat (first | exact List.mem_cons_self | apply List.mem_cons_of_mem)) (by rfl)) ?_
      refine WA.p (i := 4) (by rfl) (by kernel_rfl) (by kernel_rfl) (by kernel_rfl) (by rfl) (hs.only (by repeat (first | exact Sel.nil | (apply Sel.cons; (repeat (first | exact Ext.here | apply Ext.there)))))) (fun w hs => Yl.move (by rfl)) ?_
      refine WA.p (i := 5) (by rfl) (by kernel_rfl) (by kernel_rfl) (by kernel_rfl) (by rfl) (hs.only (by repeat (first | exact Sel.nil | (apply Sel.cons; (repeat (first | exact Ext.here | apply Ext.there)))))) (fun w hs => Yl.indexAddr slt60 (by rfl) (by rfl) (Ph.old h_c.entries hs) (by rfl) (hd)) ?_
      refine WA.p (i := 6) (by rfl) (by kernel_rfl) (by kernel_rfl) (by kernel_rfl) (by rfl) (hs.only (by repeat (first | exact Sel.nil | (apply Sel.cons; (repeat (first | exact Ext.here | apply Ext.there)))))) (fun w hs => Yl.loadA agg138 (by rfl) (Sl.Ok.at_ (Ph.old h_c.entries hs) (by assumption)).2 (by rfl)) ?_
      refine WA.dag' [(⟨1, 24, [], (fun _ v cs => v = Sl.v s ∧ cs = [])⟩, []), (⟨7, 30, [], (fun _ v cs => ∃ b, v = .slice (some ⟨b, 0, none⟩) 1 1 ∧ cs = [box b 138 ((Ph.enc (d)))])⟩, [])] [(0, _), (1, _), (2, _), (4, _), (5, _), (6, _), (7, _), (8, _), (9, _), (10, _), (11, _), (12, _), (15, _), (16, _), (17, _), (18, _), (19, _), (20, _), (21, _), (22, _), (23, _), (25, _), (26, _), (27, _), (28, _), (29, _)] ⟨by rfl, by rfl, by rfl, by rfl, by rfl, by rfl, by rfl, by rfl, by rfl, by rfl, by rfl, by rfl, by rfl, by rfl, by rfl, by rfl, by rfl, by rfl, by rfl, by rfl, by rfl, by rfl, by rfl, by rfl, by rfl, by rfl, trivial⟩ (by rfl) (by kernel_rfl) (by kernel_rfl) (by kernel_rfl) (by kernel_rfl) (by kernel_rfl) (by kernel_rfl) (fun _ hs => hs.only (by repeat (first | exact Sel.nil | (apply Sel.cons; (repeat (first | exact Ext.here | apply Ext.there)))))) hs (fuel := 3) ⟨⟨local_const, ?_⟩, ⟨local_const, ?_⟩, trivial⟩ ?_
      ·
        clear hs
        intro w R hs
        simp only [List.cons_append, List.nil_append] at hs
        exact Gives.p' (by rfl) (Yl.loadB sca60 (by rfl) hs (by repeat (first | exact List.mem_cons_self | apply List.mem_cons_of_mem)) (by rfl)) ⟨[], ⟨rfl, rfl⟩, hs⟩
      ·
        clear hs
        intro w R hs
        simp only [List.cons_append, List.nil_append] at hs
        exact Gives.rr' (by rfl) (Yr.buildSlice hs sll60 (by rfl) (by rfl) (by rfl) (by repeat (first | exact Fill.nil | (apply Fill.cons; rfl; rfl; rfl; repeat (first | (apply SetAt.here; repeat (first | exact Over.nil | apply Over.cons)) | apply SetAt.there)))) (by rfl)) (fun _ _ ⟨b, hv, _, hs1⟩ => ⟨[box b 138 ((Ph.enc (d)))], ⟨b, hv, rfl⟩, hs1⟩)
      clear hs
      rintro _ _ ⟨rfl, rfl⟩
      rintro _ _ ⟨b5, rfl, rfl⟩
      intro w hs
      simp only [List.cons_append, List.nil_append] at hs
      refine WA.r (i := 8) (by kernel_rfl) (by rfl) (by rfl) (Yr.append (s := s) (F := F) hs elt60 (by repeat (first | exact Sel.nil | (apply Sel.cons; (repeat (first | exact Ext.here | apply Ext.there))))) (by rfl) (by rfl) rfl (xs := [d]) (hs.box_cells (by repeat (first | exact List.mem_cons_self | apply List.mem_cons_of_mem))) (by intro x hx; obtain rfl := List.mem_singleton.1 hx; exact Flat.any (h_c.entries.elem hd)) (by have := filter_len (p := (fun e => !decide (e.top = top))) (l := c.entries.l) (k := k); rw [hJ2]; simp; unfold maxLen; omega) (by have := filter_len (p := (fun e => !decide (e.top = top))) (l := c.entries.l) (k := k); rw [hJ2]; simp; omega)) (by rintro _ w ⟨s6, F6, rfl, hl6, hs⟩; exact hs.only (by repeat (first | exact Sel.nil | (apply Sel.cons; (repeat (first | exact Ext.here | apply Ext.there)))))) ?_
      clear hs; rintro _ w ⟨s6, F6, rfl, hl6, hs⟩
      refine WA.p (i := 9) (by rfl) (by kernel_rfl) (by kernel_rfl) (by kernel_rfl) (by rfl) (hs.only (by repeat (first | exact Sel.nil | (apply Sel.cons; (repeat (first | exact Ext.here | apply Ext.there)))))) (fun w hs => Yl.fieldAddr fa62_0 (by rfl)) ?_
      refine WA.s (i := 10) (by kernel_rfl) (by rfl) (Yr.storeB hs (by rfl) (by rfl) (by rfl) (by repeat (first | exact Repl.here | apply Repl.there)) (by repeat (first | (apply SetAt.here; repeat (first | exact Over.nil | apply Over.cons)) | apply SetAt.there)) (by rfl) (by exact szf60)) (by rintro _ w hs; exact hs.only (by repeat (first | exact Sel.nil | (apply Sel.cons; (repeat (first | exact Ext.here | apply Ext.there)))))) ?_
      clear hs; rintro _ w hs
      refine WA.done (by kernel_rfl) ?_
      refine At.blocknormal ?_
      refine At.then_ ?_
      refine WC.region ?_
      refine WL.p (by rfl) (Yl.move (by rfl)) ?_
      refine WL.p (by rfl) (Yl.add (by rfl) (by rfl) (by omega)) ?_
      refine WL.p (by rfl) (Yl.assign (by rfl)) ?_
      refine WL.nil ?_
      refine At.roundC (k + 1, s6, F6) (hs.only (by repeat (first | exact Sel.nil | (apply Sel.cons; (repeat (first | exact Ext.here | apply Ext.there)))))) ⟨by rfl, by rfl, by rfl, by rfl, by rfl, by rfl, trivial⟩ ⟨by rfl, trivial⟩ ?_ ?_
      ·
        show c.entries.l.length - (k + 1) < c.entries.l.length - k
        omega
      ·
        exact ⟨by omega, by rw [hl6, hJ2]; exact filter_yes hd (by simpa using h2)⟩
    ·
      replace h2 := not_eq_false h2
      replace h2 := of_decide_eq_true h2
      refine WC.skip ?_
      refine At.blocknormal ?_
      refine At.then_ ?_
      refine WC.region ?_
      refine WL.p (by rfl) (Yl.move (by rfl)) ?_
      refine WL.p (by rfl) (Yl.add (by rfl) (by rfl) (by omega)) ?_
      refine WL.p (by rfl) (Yl.assign (by rfl)) ?_
      refine WL.nil ?_
      refine At.roundC (k + 1, s, F) (hs.only (by repeat (first | exact Sel.nil | (apply Sel.cons; (repeat (first | exact Ext.here | apply Ext.there)))))) ⟨by rfl, by rfl, by rfl, by rfl, by rfl, by rfl, trivial⟩ ⟨by rfl, trivial⟩ ?_ ?_
      ·
        show c.entries.l.length - (k + 1) < c.entries.l.length - k
        omega
      ·
        exact ⟨by omega, by rw [hJ2]; exact filter_no hd (by simpa using h2)⟩
  ·
    replace h1 := of_decide_eq_false h1
    refine WC.exit ?_
    refine At.thenexit ?_
    refine At.thenexit ?_
    refine At.blockexit ?_
    refine At.then_ ?_
    refine WC.seq ?_
    refine WL.p (by rfl) (Yl.loadAB agg62 (by rfl) hs (by repeat (first | exact List.mem_cons_self | apply List.mem_cons_of_mem)) (by rfl) (by rfl)) ?_
    refine WL.s (Yr.storeB hs (by rfl) (by rfl) (by rfl) (by repeat (first | exact Repl.here | apply Repl.there)) (by repeat (first | (apply SetAt.here; repeat (first | exact Over.nil | apply Over.cons)) | apply SetAt.there)) (by rfl) (by exact szf62)) ?_
    clear hs; rintro _ w hs
    refine WL.next ?_
    refine WC.ret ?_
    refine fin1c rfl agg62 (by rfl) hs (by repeat (first | exact List.mem_cons_self | apply List.mem_cons_of_mem)) (by rfl) ?_
    refine Ret.mk hs ?_
    exact ⟨⟨s⟩, rfl, by simp only [TCache.forget, TCache.mk.injEq]; rw [hJ2, show k = c.entries.l.length from by omega, List.take_length], (PCache.join ⟨s⟩ (hs.only (D := [ow s F]) (by repeat (first | exact Sel.nil | (apply Sel.cons; (repeat (first | exact Ext.here | apply Ext.there))))))).fresh List.mem_cons_self⟩

theorem c_laws_toAddr (a : TAddr) (w : World)   : Calls Try.prog 31 [.agg #[S a.host, S a.path]].toArray w (RetP w (.agg (Ph.enc a).toArray)) := by
  refine enterN 11 Try.func31 rfl rfl rfl ?_
  have hs := Sat.start w
  refine WC.seq ?_
  refine WL.r (by rfl) (Yr.box hs (by rfl) (by rfl)) ?_
  clear hs; rintro _ w ⟨b1, rfl, hb, hs⟩; clear hb
  refine WL.r (by rfl) (Yr.alloc hs zt44) ?_
  clear hs; rintro _ w ⟨b2, rfl, hb, hs⟩; clear hb
  refine WL.next ?_
  refine WC.seq ?_
  refine WL.r (by rfl) (Yr.alloc hs zt44) ?_
  clear hs; rintro _ w ⟨b3, rfl, hb, hs⟩; clear hb
  refine WL.next ?_
  refine WC.seq ?_
  refine WL.p (by rfl) (Yl.fieldAddr fa39_0 (by rfl)) ?_
  refine WL.p (by rfl) (Yl.loadB sca9 (by rfl) hs (by repeat (first | exact List.mem_cons_self | apply List.mem_cons_of_mem)) (by rfl)) ?_
  refine WL.p (by rfl) (Yl.fieldAddr fa44_0 (by rfl)) ?_
  refine WL.s (Yr.storeB hs (by rfl) (by rfl) (by rfl) (by repeat (first | exact Repl.here | apply Repl.there)) (by repeat (first | (apply SetAt.here; repeat (first | exact Over.nil | apply Over.cons)) | apply SetAt.there)) (by rfl) (by exact szf9)) ?_
  clear hs; rintro _ w hs
  refine WL.next ?_
  refine WC.seq ?_
  refine WL.p (by rfl) (Yl.fieldAddr fa39_1 (by rfl)) ?_
  refine WL.p (by rfl) (Yl.loadB sca9 (by rfl) hs (by repeat (first | exact List.mem_cons_self | apply List.mem_cons_of_mem)) (by rfl)) ?_
  refine WL.p (by rfl) (Yl.fieldAddr fa44_1 (by rfl)) ?_
  refine WL.s (Yr.storeB hs (by rfl) (by rfl) (by rfl) (by repeat (first | exact Repl.here | apply Repl.there)) (by repeat (first | (apply SetAt.here; repeat (first | exact Over.nil | apply Over.cons)) | apply SetAt.there)) (by rfl) (by exact szf9)) ?_
  clear hs; rintro _ w hs
  refine WL.next ?_
  refine WC.seq ?_
  refine WL.p (by rfl) (Yl.loadAB agg44 (by rfl) hs (by repeat (first | exact List.mem_cons_self | apply List.mem_cons_of_mem)) (by rfl) (by rfl)) ?_
  refine WL.s (Yr.storeB hs (by rfl) (by rfl) (by rfl) (by repeat (first | exact Repl.here | apply Repl.there)) (by repeat (first | (apply SetAt.here; repeat (first | exact Over.nil | apply Over.cons)) | apply SetAt.there)) (by rfl) (by exact szf44)) ?_
  clear hs; rintro _ w hs
  refine WL.next ?_
  refine WC.ret ?_
  refine fin1c rfl agg44 (by rfl) hs (by repeat (first | exact List.mem_cons_self | apply List.mem_cons_of_mem)) (by rfl) ?_
  refine RetP.mk hs ?_
  rfl

theorem c_laws_toResponse (a : TResponse) (w : World)   : Calls Try.prog 170 [.agg #[I a.status, I a.kind, S a.body, I a.age, Bo a.shares, S a.policy]].toArray w (RetP w (.agg (Ph.enc a).toArray)) := by
  refine enterN 23 Try.func170 rfl rfl rfl ?_
  have hs := Sat.start w
  refine WC.seq ?_
  refine WL.r (by rfl) (Yr.box hs (by rfl) (by rfl)) ?_
  clear hs; rintro _ w ⟨b1, rfl, hb, hs⟩; clear hb
  refine WL.r (by rfl) (Yr.alloc hs zt51) ?_
  clear hs; rintro _ w ⟨b2, rfl, hb, hs⟩; clear hb
  refine WL.next ?_
  refine WC.seq ?_
  refine WL.r (by rfl) (Yr.alloc hs zt51) ?_
  clear hs; rintro _ w ⟨b3, rfl, hb, hs⟩; clear hb
  refine WL.next ?_
  refine WC.seq ?_
  refine WL.p (by rfl) (Yl.fieldAddr fa188_0 (by rfl)) ?_
  refine WL.p (by rfl) (Yl.loadB sca3 (by rfl) hs (by repeat (first | exact List.mem_cons_self | apply List.mem_cons_of_mem)) (by rfl)) ?_
  refine WL.p (by rfl) (Yl.fieldAddr fa51_0 (by rfl)) ?_
  refine WL.s (Yr.storeB hs (by rfl) (by rfl) (by rfl) (by repeat (first | exact Repl.here | apply Repl.there)) (by repeat (first | (apply SetAt.here; repeat (first | exact Over.nil | apply Over.cons)) | apply SetAt.there)) (by rfl) (by exact szf3)) ?_
  clear hs; rintro _ w hs
  refine WL.next ?_
  refine WC.seq ?_
  refine WL.p (by rfl) (Yl.fieldAddr fa188_1 (by rfl)) ?_
  refine WL.p (by rfl) (Yl.loadB sca3 (by rfl) hs (by repeat (first | exact List.mem_cons_self | apply List.mem_cons_of_mem)) (by rfl)) ?_
  refine WL.p (by rfl) (Yl.fieldAddr fa51_1 (by rfl)) ?_
  refine WL.s (Yr.storeB hs (by rfl) (by rfl) (by rfl) (by repeat (first | exact Repl.here | apply Repl.there)) (by repeat (first | (apply SetAt.here; repeat (first | exact Over.nil | apply Over.cons)) | apply SetAt.there)) (by rfl) (by exact szf3)) ?_
  clear hs; rintro _ w hs
  refine WL.next ?_
  refine WC.seq ?_
  refine WL.p (by rfl) (Yl.fieldAddr fa188_2 (by rfl)) ?_
  refine WL.p (by rfl) (Yl.loadB sca9 (by rfl) hs (by repeat (first | exact List.mem_cons_self | apply List.mem_cons_of_mem)) (by rfl)) ?_
  refine WL.p (by rfl) (Yl.fieldAddr fa51_2 (by rfl)) ?_
  refine WL.s (Yr.storeB hs (by rfl) (by rfl) (by rfl) (by repeat (first | exact Repl.here | apply Repl.there)) (by repeat (first | (apply SetAt.here; repeat (first | exact Over.nil | apply Over.cons)) | apply SetAt.there)) (by rfl) (by exact szf9)) ?_
  clear hs; rintro _ w hs
  refine WL.next ?_
  refine WC.seq ?_
  refine WL.p (by rfl) (Yl.fieldAddr fa188_3 (by rfl)) ?_
  refine WL.p (by rfl) (Yl.loadB sca3 (by rfl) hs (by repeat (first | exact List.mem_cons_self | apply List.mem_cons_of_mem)) (by rfl)) ?_
  refine WL.p (by rfl) (Yl.fieldAddr fa51_3 (by rfl)) ?_
  refine WL.s (Yr.storeB hs (by rfl) (by rfl) (by rfl) (by repeat (first | exact Repl.here | apply Repl.there)) (by repeat (first | (apply SetAt.here; repeat (first | exact Over.nil | apply Over.cons)) | apply SetAt.there)) (by rfl) (by exact szf3)) ?_
  clear hs; rintro _ w hs
  refine WL.next ?_
  refine WC.seq ?_
  refine WL.p (by rfl) (Yl.fieldAddr fa188_4 (by rfl)) ?_
  refine WL.p (by rfl) (Yl.loadB sca4 (by rfl) hs (by repeat (first | exact List.mem_cons_self | apply List.mem_cons_of_mem)) (by rfl)) ?_
  refine WL.p (by rfl) (Yl.fieldAddr fa51_4 (by rfl)) ?_
  refine WL.s (Yr.storeB hs (by rfl) (by rfl) (by rfl) (by repeat (first | exact Repl.here | apply Repl.there)) (by repeat (first | (apply SetAt.here; repeat (first | exact Over.nil | apply Over.cons)) | apply SetAt.there)) (by rfl) (by exact szf4)) ?_
  clear hs; rintro _ w hs
  refine WL.next ?_
  refine WC.seq ?_
  refine WL.p (by rfl) (Yl.fieldAddr fa188_5 (by rfl)) ?_
  refine WL.p (by rfl) (Yl.loadB sca9 (by rfl) hs (by repeat (first | exact List.mem_cons_self | apply List.mem_cons_of_mem)) (by rfl)) ?_
  refine WL.p (by rfl) (Yl.fieldAddr fa51_5 (by rfl)) ?_
  refine WL.s (Yr.storeB hs (by rfl) (by rfl) (by rfl) (by repeat (first | exact Repl.here | apply Repl.there)) (by repeat (first | (apply SetAt.here; repeat (first | exact Over.nil | apply Over.cons)) | apply SetAt.there)) (by rfl) (by exact szf9)) ?_
  clear hs; rintro _ w hs
  refine WL.next ?_
  refine WC.seq ?_
  refine WL.p (by rfl) (Yl.loadAB agg51 (by rfl) hs (by repeat (first | exact List.mem_cons_self | apply List.mem_cons_of_mem)) (by rfl) (by rfl)) ?_
  refine WL.s (Yr.storeB hs (by rfl) (by rfl) (by rfl) (by repeat (first | exact Repl.here | apply Repl.there)) (by repeat (first | (apply SetAt.here; repeat (first | exact Over.nil | apply Over.cons)) | apply SetAt.there)) (by rfl) (by exact szf51)) ?_
  clear hs; rintro _ w hs
  refine WL.next ?_
  refine WC.ret ?_
  refine fin1c rfl agg51 (by rfl) hs (by repeat (first | exact List.mem_cons_self | apply List.mem_cons_of_mem)) (by rfl) ?_
  refine RetP.mk hs ?_
  rfl

theorem c_laws_toEntry (a : TEntry) (w : World)   : Calls Try.prog 143 [.agg #[S a.top, S a.to.host, S a.to.path, I a.response.status, I a.response.kind, S a.response.body, I a.response.age, Bo a.response.shares, S a.response.policy, I a.until_]].toArray w (RetP w (.agg (Ph.enc a).toArray)) := by
  refine enterN 19 Try.func143 rfl rfl rfl ?_
  have hs := Sat.start w
  refine WC.seq ?_
  refine WL.r (by rfl) (Yr.box hs (by rfl) (by rfl)) ?_
  clear hs; rintro _ w ⟨b1, rfl, hb, hs⟩; clear hb
  refine WL.r (by rfl) (Yr.alloc hs zt138) ?_
  clear hs; rintro _ w ⟨b2, rfl, hb, hs⟩; clear hb
  refine WL.next ?_
  refine WC.seq ?_
  refine WL.r (by rfl) (Yr.alloc hs zt138) ?_
  clear hs; rintro _ w ⟨b3, rfl, hb, hs⟩; clear hb
  refine WL.next ?_
  refine WC.seq ?_
  refine WL.p (by rfl) (Yl.fieldAddr fa190_0 (by rfl)) ?_
  refine WL.p (by rfl) (Yl.loadB sca9 (by rfl) hs (by repeat (first | exact List.mem_cons_self | apply List.mem_cons_of_mem)) (by rfl)) ?_
  refine WL.p (by rfl) (Yl.fieldAddr fa138_0 (by rfl)) ?_
  refine WL.s (Yr.storeB hs (by rfl) (by rfl) (by rfl) (by repeat (first | exact Repl.here | apply Repl.there)) (by repeat (first | (apply SetAt.here; repeat (first | exact Over.nil | apply Over.cons)) | apply SetAt.there)) (by rfl) (by exact szf9)) ?_
  clear hs; rintro _ w hs
  refine WL.next ?_
  refine WC.seq ?_
  refine WL.p (by rfl) (Yl.fieldAddr fa190_1 (by rfl)) ?_
  refine WL.p (by rfl) (Yl.loadAB agg39 (by rfl) hs (by repeat (first | exact List.mem_cons_self | apply List.mem_cons_of_mem)) (by rfl) (by rfl)) ?_
  refine WL.callp hs (by rfl) (Yc.func (by rfl) fn31) (c_laws_toAddr _ _) ?_
  clear hs; intro w hs
  refine WL.p (by rfl) (Yl.fieldAddr fa138_1 (by rfl)) ?_
  refine WL.s (Yr.storeB hs (by rfl) (by rfl) (by rfl) (by repeat (first | exact Repl.here | apply Repl.there)) (by repeat (first | (apply SetAt.here; repeat (first | exact Over.nil | apply Over.cons)) | apply SetAt.there)) (by rfl) (by exact szf44)) ?_
  clear hs; rintro _ w hs
  refine WL.next ?_
  refine WC.seq ?_
  refine WL.p (by rfl) (Yl.fieldAddr fa190_2 (by rfl)) ?_
  refine WL.p (by rfl) (Yl.loadAB agg188 (by rfl) hs (by repeat (first | exact List.mem_cons_self | apply List.mem_cons_of_mem)) (by rfl) (by rfl)) ?_
  refine WL.callp hs (by rfl) (Yc.func (by rfl) fn170) (c_laws_toResponse _ _) ?_
  clear hs; intro w hs
  refine WL.p (by rfl) (Yl.fieldAddr fa138_2 (by rfl)) ?_
  refine WL.s (Yr.storeB hs (by rfl) (by rfl) (by rfl) (by repeat (first | exact Repl.here | apply Repl.there)) (by repeat (first | (apply SetAt.here; repeat (first | exact Over.nil | apply Over.cons)) | apply SetAt.there)) (by rfl) (by exact szf51)) ?_
  clear hs; rintro _ w hs
  refine WL.next ?_
  refine WC.seq ?_
  refine WL.p (by rfl) (Yl.fieldAddr fa190_3 (by rfl)) ?_
  refine WL.p (by rfl) (Yl.loadB sca3 (by rfl) hs (by repeat (first | exact List.mem_cons_self | apply List.mem_cons_of_mem)) (by rfl)) ?_
  refine WL.p (by rfl) (Yl.fieldAddr fa138_3 (by rfl)) ?_
  refine WL.s (Yr.storeB hs (by rfl) (by rfl) (by rfl) (by repeat (first | exact Repl.here | apply Repl.there)) (by repeat (first | (apply SetAt.here; repeat (first | exact Over.nil | apply Over.cons)) | apply SetAt.there)) (by rfl) (by exact szf3)) ?_
  clear hs; rintro _ w hs
  refine WL.next ?_
  refine WC.seq ?_
  refine WL.p (by rfl) (Yl.loadAB agg138 (by rfl) hs (by repeat (first | exact List.mem_cons_self | apply List.mem_cons_of_mem)) (by rfl) (by rfl)) ?_
  refine WL.s (Yr.storeB hs (by rfl) (by rfl) (by rfl) (by repeat (first | exact Repl.here | apply Repl.there)) (by repeat (first | (apply SetAt.here; repeat (first | exact Over.nil | apply Over.cons)) | apply SetAt.there)) (by rfl) (by exact szf138)) ?_
  clear hs; rintro _ w hs
  refine WL.next ?_
  refine WC.ret ?_
  refine fin1c rfl agg138 (by rfl) hs (by repeat (first | exact List.mem_cons_self | apply List.mem_cons_of_mem)) (by rfl) ?_
  refine RetP.mk hs ?_
  rfl

theorem c_laws_toEntryS (a : (Sl TEntry)) (w : World) (h_a : Ph.ok w a) (hb : a.l.length ≤ 1048576) : Calls Try.prog 88 [Sl.v a].toArray w (Ret w (fun v w' => ∃ x : Sl TEntry, v = x.v ∧ x.l = a.l ∧ Fresh w x w')) := by
  have hw := h_a.lt
  refine enterN 23 Try.func88 rfl rfl rfl ?_
  have hs := Sat.start w
  refine WC.seq ?_
  refine WL.p (by rfl) (Yl.assign (by rfl)) ?_
  refine WL.next ?_
  refine WC.seq ?_
  refine WL.p (by rfl) (Yl.move (by rfl)) ?_
  refine WL.p (by rfl) (Yl.len_sl slu56 (by rfl)) ?_
  refine WL.r (by rfl) (Yr.makeSlice (z := (⟨[], ⟨[], []⟩, ⟨0, 0, [], 0, false, []⟩, 0⟩ : TEntry)) (bytes := 120) hs elt60 (by rfl) (by rfl) (by omega) (by unfold maxLen; omega)) ?_
  clear hs; rintro _ w ⟨s1, F1, rfl, hl1, hb, hs⟩; clear hb
  refine WL.p (by rfl) (Yl.assign (by rfl)) ?_
  refine WL.next ?_
  refine WC.seq' ?_
  refine WC.seq ?_
  refine WL.p (by rfl) (Yl.assign (by rfl)) ?_
  refine WL.next ?_
  refine WC.block ?_
  refine WC.loopC (ι := Nat × Sl TEntry × List Nat) (fun ⟨k, s, F⟩ => a.l.length - k) (fun ⟨k, s, F⟩ => [(4, I (k : Int)), (3, s.v)]) (fun ⟨k, s, F⟩ => [ow s F]) (fun ⟨k, s, F⟩ => k ≤ a.l.length ∧ s.l = a.l.take k ++ List.replicate (a.l.length - k) (⟨[], ⟨[], []⟩, ⟨0, 0, [], 0, false, []⟩, 0⟩ : TEntry)) [(0, _), (2, _), (5, _), (6, _), (7, _)] (0, s1, F1) (hs.sel (D := [ow s1 F1]) (by repeat (first | exact Sel.nil | (apply Sel.cons; (repeat (first | exact Ext.here | apply Ext.there)))))) ⟨by rfl, by rfl, by rfl, by rfl, by rfl, trivial⟩ ⟨by rfl, by rfl, trivial⟩ ?_ ?_
  ·
    exact ⟨Nat.zero_le _, by simp [hl1]⟩
  clear hs; rintro ⟨k, s, F⟩ w ⟨hJ1, hJ2⟩ hs
  simp only [List.cons_append, List.nil_append] at hs
  refine WC.seq' ?_
  refine WC.seq ?_
  refine WL.p (by rfl) (Yl.move (by rfl)) ?_
  refine WL.p (by rfl) (Yl.move (by rfl)) ?_
  refine WL.p (by rfl) (Yl.len_sl slu56 (by rfl)) ?_
  refine WL.p (by rfl) (Yl.lss (by rfl) (by rfl)) ?_
  refine WL.next ?_
  refine WC.condS (by rfl) (fun h1 => ?_) (fun h1 => ?_)
  ·
    replace h1 := of_decide_eq_true h1
    obtain ⟨d, hd⟩ := exists_get (l := a.l) (k := k) (by omega)
    have hkl : k < s.l.length := by rw [hJ2]; simp; omega
    refine WC.skipn ?_
    refine WC.seq' ?_
    refine WC.block ?_
    refine WC.region ?_
    refine WL.p (by rfl) (Yl.move (by rfl)) ?_
    refine WL.p (by rfl) (Yl.move (by rfl)) ?_
    refine WL.p (by rfl) (Yl.move (by rfl)) ?_
    refine WL.p (by rfl) (Yl.move (by rfl)) ?_
    refine WL.p (by rfl) (Yl.indexAddr slt56 (by rfl) (by rfl) (Ph.old h_a hs) (by rfl) (hd)) ?_
    refine WL.p (by rfl) (Yl.loadA agg190 (by rfl) (Sl.Ok.at_ (Ph.old h_a hs) (by assumption)).2 (by rfl)) ?_
    refine WL.callp hs (by rfl) (Yc.func (by rfl) fn143) (c_laws_toEntry _ _) ?_
    clear hs; intro w hs
    refine WL.p (by rfl) (Yl.indexAddr slt60 (by rfl) (by rfl) (hs.okow (x := s) (F := F) (by repeat (first | exact List.mem_cons_self | apply List.mem_cons_of_mem))) (by rfl) (List.getElem?_eq_getElem hkl)) ?_
    refine WL.s (Yr.storeE (k := k) (hs.flat (by first | assumption | (refine Ph.old ?_ hs; assumption) | (refine Ph.old (Sl.Ok.elem ?_ (by assumption)) hs; assumption))) (by repeat (first | exact Sel.nil | (apply Sel.cons; (repeat (first | exact Ext.here | apply Ext.there))))) (by rfl) (by rfl) (by rfl) (by exact hkl) ⟨_, by rfl, by rfl⟩ szf138) ?_
    clear hs; rintro _ w ⟨F2, hs⟩
    refine WL.nil ?_
    refine At.blocknormal ?_
    refine At.then_ ?_
    refine WC.region ?_
    refine WL.p (by rfl) (Yl.move (by rfl)) ?_
    refine WL.p (by rfl) (Yl.add (by rfl) (by rfl) (by omega)) ?_
    refine WL.p (by rfl) (Yl.assign (by rfl)) ?_
    refine WL.nil ?_
    refine At.roundC (k + 1, ⟨s.l.set k d, s.a, s.c⟩, _) (hs.only (by repeat (first | exact Sel.nil | (apply Sel.cons; (repeat (first | exact Ext.here | apply Ext.there)))))) ⟨by rfl, by rfl, by rfl, by rfl, by rfl, trivial⟩ ⟨by rfl, by rw [Sl.v_set]; rfl, trivial⟩ ?_ ?_
    ·
      show a.l.length - (k + 1) < a.l.length - k
      omega
    ·
      exact ⟨by omega, by simp only [hJ2]; exact fill_step hd⟩
  ·
    replace h1 := of_decide_eq_false h1
    refine WC.exit ?_
    refine At.thenexit ?_
    refine At.thenexit ?_
    refine At.blockexit ?_
    refine At.then_ ?_
    refine WC.seq ?_
    refine WL.p (by rfl) (Yl.move (by rfl)) ?_
    refine WL.p (by rfl) (Yl.assign (by rfl)) ?_
    refine WL.next ?_
    refine WC.ret ?_
    refine fin1' rfl (by rfl) ?_
    refine Ret.mk hs ?_
    exact ⟨s, rfl, by rw [hJ2, show k = a.l.length from by omega]; simp, hs.fresh (by repeat (first | exact List.mem_cons_self | apply List.mem_cons_of_mem))⟩

theorem c_laws_toCache (a : PCache) (w : World) (h_a : Ph.ok w a) (hb : a.lg.size ≤ 1048576) : Calls Try.prog 36 [.agg #[Sl.v a.entries]].toArray w (Ret w (fun v w' => ∃ x : PCache, v = .agg (Ph.enc x).toArray ∧ x.lg = a.lg ∧ Fresh w x w')) := by
  refine enterN 9 Try.func36 rfl rfl rfl ?_
  have hs := Sat.start w
  refine WC.seq ?_
  refine WL.r (by rfl) (Yr.box hs (by rfl) (by rfl)) ?_
  clear hs; rintro _ w ⟨b1, rfl, hb, hs⟩; clear hb
  refine WL.r (by rfl) (Yr.alloc hs zt62) ?_
  clear hs; rintro _ w ⟨b2, rfl, hb, hs⟩; clear hb
  refine WL.next ?_
  refine WC.seq ?_
  refine WL.r (by rfl) (Yr.alloc hs zt62) ?_
  clear hs; rintro _ w ⟨b3, rfl, hb, hs⟩; clear hb
  refine WL.next ?_
  refine WC.seq ?_
  refine WL.p (by rfl) (Yl.fieldAddr fa58_0 (by rfl)) ?_
  refine WL.p (by rfl) (Yl.loadB sca56 (by rfl) hs (by repeat (first | exact List.mem_cons_self | apply List.mem_cons_of_mem)) (by rfl)) ?_
  refine WL.call hs (by rfl) (Yc.func (by rfl) fn88) (c_laws_toEntryS _ _ (Ph.old h_a.entries hs) (by first | assumption | omega | (simp only [lsz] at *; omega) | (simp only [lsz, strsz, TPolicy.size, TCache.size, TAddr.size, TRequest.size, TEntry.size, TResponse.size, TLine.size] at *; omega) | (simp only [lsz_map, TPage.size, TBuilder.size, TNode.size, TToken.size, TTokenizer.size, TServer.size, TFile.size, TNet.size, TCache.size, TSheet.size, strsz] at *; omega) | (simp only [lsz_map, TPage.size, TBuilder.size, TNode.size, TToken.size, TTokenizer.size, TServer.size, TFile.size, TNet.size, TCache.size, TSheet.size, strsz, lsz] at *; omega))) ?_
  have hs0 := hs; clear hs; intro v w hb hR hs; clear hs
  obtain ⟨x4, rfl, hx4, hf4⟩ := hR
  obtain ⟨F4, hs⟩ := hf4.sat hs0 hb; clear hs0 hf4
  refine WL.p (by rfl) (Yl.fieldAddr fa62_0 (by rfl)) ?_
  refine WL.s (Yr.storeB hs (by rfl) (by rfl) (by rfl) (by repeat (first | exact Repl.here | apply Repl.there)) (by repeat (first | (apply SetAt.here; repeat (first | exact Over.nil | apply Over.cons)) | apply SetAt.there)) (by rfl) (by exact szf60)) ?_
  clear hs; rintro _ w hs
  refine WL.next ?_
  refine WC.seq ?_
  refine WL.p (by rfl) (Yl.loadAB agg62 (by rfl) hs (by repeat (first | exact List.mem_cons_self | apply List.mem_cons_of_mem)) (by rfl) (by rfl)) ?_
  refine WL.s (Yr.storeB hs (by rfl) (by rfl) (by rfl) (by repeat (first | exact Repl.here | apply Repl.there)) (by repeat (first | (apply SetAt.here; repeat (first | exact Over.nil | apply Over.cons)) | apply SetAt.there)) (by rfl) (by exact szf62)) ?_
  clear hs; rintro _ w hs
  refine WL.next ?_
  refine WC.ret ?_
  refine fin1c rfl agg62 (by rfl) hs (by repeat (first | exact List.mem_cons_self | apply List.mem_cons_of_mem)) (by rfl) ?_
  refine Ret.mk hs ?_
  refine ⟨⟨x4⟩, rfl, ?_, ?_⟩
  · simp_all
  · exact (PCache.join _ (hs.only (D := [ow x4 F4]) (by repeat (first | exact Sel.nil | (apply Sel.cons; (repeat (first | exact Ext.here | apply Ext.there)))))) ).fresh List.mem_cons_self

theorem c_impl_copyCache (c : PCache) (w : World) (h_c : Ph.ok w c) (hb : c.lg.size ≤ 1048576) : Calls Try.prog 89 [.agg #[Sl.v c.entries]].toArray w (Ret w (fun v w' => ∃ x : PCache, v = .agg (Ph.enc x).toArray ∧ x.lg = c.lg ∧ Fresh w x w')) := by
  have hw := h_c.entries.lt
  refine enterN 8 Try.func89 rfl rfl rfl ?_
  have hs := Sat.start w
  refine WC.seq ?_
  refine WL.r (by rfl) (Yr.box hs (by rfl) (by rfl)) ?_
  clear hs; rintro _ w ⟨b1, rfl, hb, hs⟩; clear hb
  refine WL.r (by rfl) (Yr.alloc hs zt62) ?_
  clear hs; rintro _ w ⟨b2, rfl, hb, hs⟩; clear hb
  refine WL.next ?_
  refine WC.seq ?_
  refine WL.r (by rfl) (Yr.buildSlice hs sll60 (by rfl) (by rfl) (by rfl) (by repeat (first | exact Fill.nil | (apply Fill.cons; rfl; rfl; rfl; repeat (first | (apply SetAt.here; repeat (first | exact Over.nil | apply Over.cons)) | apply SetAt.there)))) (by rfl)) ?_
  clear hs; rintro _ w ⟨b3, rfl, hb, hs⟩; clear hb
  refine WL.p (by rfl) (Yl.fieldAddr fa62_0 (by rfl)) ?_
  refine WL.p (by rfl) (Yl.loadB sca60 (by rfl) hs (by repeat (first | exact List.mem_cons_self | apply List.mem_cons_of_mem)) (by rfl)) ?_
  replace hs := (Sat.boxow (l := ([] : List TEntry)) (hs.sel (D := [box b3 _ _]) (by repeat (first | exact Sel.nil | (apply Sel.cons; (repeat (first | exact Ext.here | apply Ext.there)))))) rfl rfl (by simp [maxLen]) (ownL_mk_flat (by simp)))
  refine WL.r (by rfl) (Yr.appendS (s := (⟨[], some ⟨b3, 0, none⟩, _⟩ : Sl TEntry)) (F := [b3]) (r := c.entries) hs elt60 (by repeat (first | exact Sel.nil | (apply Sel.cons; (repeat (first | exact Ext.here | apply Ext.there))))) (by rfl) (by rfl) (Ph.old h_c.entries hs) (by simp; unfold maxLen; omega) (by simp only [TCache.size, lsz] at hb; simp; omega)) ?_
  clear hs; rintro _ w ⟨s4, F4, rfl, hl4, hs⟩
  refine WL.p (by rfl) (Yl.build bt62 (by rfl) (by repeat (first | exact Fill.nil | (apply Fill.cons; rfl; rfl; rfl; repeat (first | (apply SetAt.here; repeat (first | exact Over.nil | apply Over.cons)) | apply SetAt.there))))) ?_
  refine WL.s (Yr.storeB hs (by rfl) (by rfl) (by rfl) (by repeat (first | exact Repl.here | apply Repl.there)) (by repeat (first | (apply SetAt.here; repeat (first | exact Over.nil | apply Over.cons)) | apply SetAt.there)) (by rfl) (by exact szf62)) ?_
  clear hs; rintro _ w hs
  refine WL.next ?_
  refine WC.ret ?_
  refine fin1c rfl agg62 (by rfl) hs (by repeat (first | exact List.mem_cons_self | apply List.mem_cons_of_mem)) (by rfl) ?_
  refine Ret.mk hs ?_
  refine ⟨⟨s4⟩, rfl, ?_, ?_⟩
  · simp_all
  · exact (PCache.join _ (hs.only (D := [ow s4 F4]) (by repeat (first | exact Sel.nil | (apply Sel.cons; (repeat (first | exact Ext.here | apply Ext.there)))))) ).fresh List.mem_cons_self

theorem c_slices_IndexFunc___impl_Entry_impl_Entry_ (s : (Sl TEntry)) (f : FuncId) (us_f : List Value) (p_f : TEntry → Bool) (w : World) (h_s : Ph.ok w s)  (hfn_f : FN Try.prog f) (hf_f : ∀ x ∈ s.l, ∀ w', Below w.heap.size w w' → Calls Try.prog f (([.agg (Ph.enc x).toArray] : List Value) ++ us_f).toArray w' (RetP w' (Bo (p_f x)))) : Calls Try.prog 144 [Sl.v s, .func (.func f) #[] us_f.toArray].toArray w (RetP w (I (idxF (p_f) s.l 0))) := by
  have hw := h_s.lt
  refine enterN 19 Try.func144 rfl rfl rfl ?_
  have hs := Sat.start w
  refine WC.seq ?_
  refine WL.p (by rfl) (Yl.assign (by rfl)) ?_
  refine WL.next ?_
  refine WC.seq' ?_
  refine WC.seq ?_
  refine WL.p (by rfl) (Yl.move (by rfl)) ?_
  refine WL.p (by rfl) (Yl.len_sl slu60 (by rfl)) ?_
  refine WL.p (by rfl) (Yl.move (by rfl)) ?_
  refine WL.next ?_
  refine WC.block ?_
  refine WC.loopC (ι := Nat) (fun k => s.l.length - k) (fun k => [(8, I (k : Int))]) (fun _ => []) (fun k => idxF (p_f) s.l 0 = idxF (p_f) (s.l.drop k) k) [(0, _), (1, _), (6, _), (7, _)] 0 (hs) ⟨by rfl, by rfl, by rfl, by rfl, trivial⟩ ⟨by rfl, trivial⟩ ?_ ?_
  ·
    simp
  clear hs; rintro k w hJ hs
  simp only [List.nil_append] at hs
  refine WC.seq ?_
  refine WL.p (by rfl) (Yl.lss (by rfl) (by rfl)) ?_
  refine WL.next ?_
  refine WC.seq' ?_
  refine WC.condS (by rfl) (fun h1 => ?_) (fun h1 => ?_)
  ·
    replace h1 := of_decide_eq_true h1
    obtain ⟨d, hd⟩ := exists_get (l := s.l) (k := k) (by omega)
    rw [drop_cons hd] at hJ
    refine WC.skipn ?_
    refine WC.seq' ?_
    refine WC.block ?_
    refine WC.seq ?_
    refine WL.p (by rfl) (Yl.move (by rfl)) ?_
    refine WL.p (by rfl) (Yl.assign (by rfl)) ?_
    refine WL.next ?_
    refine WC.seq ?_
    refine WL.p (by rfl) (Yl.move (by rfl)) ?_
    refine WL.p (by rfl) (Yl.move (by rfl)) ?_
    refine WL.p (by rfl) (Yl.move (by rfl)) ?_
    refine WL.p (by rfl) (Yl.indexAddr slt60 (by rfl) (by rfl) (Ph.old h_s hs) (by rfl) (hd)) ?_
    refine WL.p (by rfl) (Yl.loadA agg138 (by rfl) (Sl.Ok.at_ (Ph.old h_s hs) (by assumption)).2 (by rfl)) ?_
    refine WL.callp hs (by rfl) (Yc.value (by rfl) (by rfl) hfn_f (by rfl)) (hf_f _ (List.mem_of_getElem? (by assumption)) _ hs.below) ?_
    clear hs; intro w hs
    refine WL.next ?_
    refine WC.condS (by rfl) (fun h2 => ?_) (fun h2 => ?_)
    ·
      refine WC.seq ?_
      refine WL.p (by rfl) (Yl.move (by rfl)) ?_
      refine WL.p (by rfl) (Yl.assign (by rfl)) ?_
      refine WL.next ?_
      refine WC.ret ?_
      refine At.blockret ?_
      refine At.thenret ?_
      refine At.thenret ?_
      refine At.blockret ?_
      refine At.thenret ?_
      refine fin1' rfl (by rfl) ?_
      refine RetP.mk hs ?_
      rw [hJ]; simp_all [idxF]
    ·
      refine WC.skip ?_
      refine At.blocknormal ?_
      refine At.then_ ?_
      refine WC.region ?_
      refine WL.p (by rfl) (Yl.add (by rfl) (by rfl) (by omega)) ?_
      refine WL.p (by rfl) (Yl.move (by rfl)) ?_
      refine WL.nil ?_
      refine At.roundC (k + 1) (hs.only (by repeat (first | exact Sel.nil | (apply Sel.cons; (repeat (first | exact Ext.here | apply Ext.there)))))) ⟨by rfl, by rfl, by rfl, by rfl, trivial⟩ ⟨by rfl, trivial⟩ ?_ ?_
      ·
        omega
      ·
        rw [hJ]; simp_all [idxF]
  ·
    replace h1 := of_decide_eq_false h1
    rw [drop_out (l := s.l) (by omega)] at hJ
    refine WC.exit ?_
    refine At.thenexit ?_
    refine At.thenexit ?_
    refine At.blockexit ?_
    refine At.then_ ?_
    refine WC.seq ?_
    refine WL.p (by rfl) (Yl.assign (by rfl)) ?_
    refine WL.next ?_
    refine WC.ret ?_
    refine fin1' rfl (by rfl) ?_
    refine RetP.mk hs ?_
    rw [hJ]; simp_all [idxF]

theorem c_slices_DeleteFunc___impl_Entry_impl_Entry_ (s : (Sl TEntry)) (del : FuncId) (us_del : List Value) (p_del : TEntry → Bool) (w : World) (F : List Nat) (hF : Own.own w s F) (hn : F.Nodup)   (hfn_del : FN Try.prog del) (hf_del : ∀ x ∈ s.l, ∀ w', Touch (fun k => k ∈ F) w w' → Calls Try.prog del (([.agg (Ph.enc x).toArray] : List Value) ++ us_del).toArray w' (RetP w' (Bo (p_del x)))) : Calls Try.prog 90 [Sl.v s, .func (.func del) #[] us_del.toArray].toArray w (RetO w F (fun s' : Sl TEntry => s'.l = s.l.filter (fun x => !p_del x))) := by
  have hw := (Own.ok hF : Sl.Ok w s).lt
  refine enterN 42 Try.func90 rfl rfl rfl ?_
  have hs := Sat.markStart hF hn
  refine WC.seq ?_
  refine WL.p (by rfl) (Yl.assign (by rfl)) ?_
  refine WL.next ?_
  refine WC.seq ?_
  refine WL.p (by rfl) (Yl.move (by rfl)) ?_
  refine WL.p (by rfl) (Yl.move (by rfl)) ?_
  refine WL.callp hs (by rfl) (Yc.func (by rfl) fn144) (c_slices_IndexFunc___impl_Entry_impl_Entry_ _ _ _ p_del _ (hs.okow (x := s) (F := F) (by repeat (first | exact List.mem_cons_self | apply List.mem_cons_of_mem))) hfn_del (fun x hx w1 hb1 => hf_del x hx w1 (hs.ext hb1).tch)) ?_
  clear hs; intro w hs
  refine WL.p (by rfl) (Yl.assign (by rfl)) ?_
  refine WL.next ?_
  refine WC.seq' ?_
  refine WC.seq ?_
  refine WL.p (by rfl) (Yl.move (by rfl)) ?_
  refine WL.p (by rfl) (Yl.eqi (by rfl) (by rfl)) ?_
  refine WL.next ?_
  refine WC.condS (by rfl) (fun h1 => ?_) (fun h1 => ?_)
  ·
    replace h1 := of_decide_eq_true h1
    refine WC.seq ?_
    refine WL.p (by rfl) (Yl.move (by rfl)) ?_
    refine WL.p (by rfl) (Yl.assign (by rfl)) ?_
    refine WL.next ?_
    refine WC.ret ?_
    refine At.thenret ?_
    refine fin1' rfl (by rfl) ?_
    exact RetO.of hs (by repeat (first | exact List.mem_cons_self | apply List.mem_cons_of_mem)) rfl (idxF_m1 h1).symm
  ·
    replace h1 := of_decide_eq_false h1
    have hge := idxF_ge (p := p_del) (l := s.l) (k := 0)
    obtain ⟨k0, d0, hk0, hd0, hf0⟩ := idxF_some (show ¬ idxF p_del s.l 0 < 0 by omega)
    have hk1 := idxF_cut hk0
    rw [Nat.zero_add] at hk0
    have hk2 : k0 < s.l.length := (List.getElem?_eq_some_iff.1 hd0).1
    refine WC.skipn ?_
    refine WC.seq' ?_
    refine WC.seq ?_
    refine WL.p (by rfl) (Yl.move (by rfl)) ?_
    refine WL.p (by rfl) (Yl.add (by rfl) (by rfl) (by omega)) ?_
    refine WL.p (by rfl) (Yl.assign (by rfl)) ?_
    refine WL.next ?_
    refine WC.block ?_
    refine WC.loopC (ι := Nat × Nat × Sl TEntry × List Nat) (fun ⟨m, k, z, F1⟩ => s.l.length - k) (fun ⟨m, k, z, F1⟩ => [(5, I (m : Int)), (6, I (k : Int))]) (fun ⟨m, k, z, F1⟩ => [ow z F1]) (fun ⟨m, k, z, F1⟩ => m < k ∧ k ≤ s.l.length ∧ z.v = s.v ∧ z.l.length = s.l.length ∧ z.l.take m = (s.l.take k).filter (fun x => !p_del x) ∧ z.l.drop k = s.l.drop k) [(0, _), (1, _), (4, _), (8, _), (9, _), (10, _), (11, _), (12, _), (14, _), (15, _)] (k0, k0 + 1, s, F) (hs.sel (D := [ow s F]) (by repeat (first | exact Sel.nil | (apply Sel.cons; (repeat (first | exact Ext.here | apply Ext.there)))))) ⟨by rfl, by rfl, by rfl, by rfl, by rfl, by rfl, by rfl, by rfl, by rfl, by rfl, trivial⟩ ⟨by exact congrArg (fun z => some (I z)) hk0, by exact congrArg (fun z => some (I z)) (by rw [hk0]; omega), trivial⟩ ?_ ?_
    ·
      exact ⟨by omega, by omega, rfl, rfl, hk1.symm, rfl⟩
    clear hs; rintro ⟨m, k, z, F1⟩ w ⟨hJ1, hJ2, hJ3, hJ4, hJ5, hJ6⟩ hs
    simp only [List.cons_append, List.nil_append] at hs
    refine WC.seq' ?_
    refine WC.seq ?_
    refine WL.p (by rfl) (Yl.move (by rfl)) ?_
    refine WL.p (by rfl) (Yl.move (by rfl)) ?_
    refine WL.p (by rfl) (Yl.len_sl slu60 (by rfl)) ?_
    refine WL.p (by rfl) (Yl.lss (by rfl) (by rfl)) ?_
    refine WL.next ?_
    refine WC.condS (by rfl) (fun h2 => ?_) (fun h2 => ?_)
    ·
      replace h2 := of_decide_eq_true h2
      obtain ⟨d, hdd⟩ := exists_get (l := s.l) (k := k) (by omega)
      have hd : z.l[k]? = some d := get_of_drop hJ6 hdd
      have hml : m < z.l.length := by omega
      refine WC.skipn ?_
      refine WC.seq' ?_
      refine WC.block ?_
      refine WC.seq ?_
      refine WL.p (by rfl) (Yl.move (by rfl)) ?_
      refine WL.p (by rfl) (Yl.move (by rfl)) ?_
      refine WL.p (by rfl) (Yl.indexAddrV slt60 (by rfl) hJ3 (by rfl) (hs.okow (x := z) (F := F1) (by repeat (first | exact List.mem_cons_self | apply List.mem_cons_of_mem))) (by rfl) (hd)) ?_
      refine WL.p (by rfl) (Yl.loadA agg138 (by rfl) (Sl.Ok.at_ (hs.okow (x := z) (F := F1) (by repeat (first | exact List.mem_cons_self | apply List.mem_cons_of_mem))) (by assumption)).2 (by rfl)) ?_
      refine WL.r (by rfl) (Yr.alloc hs zt138) ?_
      clear hs; rintro _ w ⟨b1, rfl, hb, hs⟩; clear hb
      refine WL.s (Yr.storeB hs (by rfl) (by rfl) (by rfl) (by repeat (first | exact Repl.here | apply Repl.there)) (by repeat (first | (apply SetAt.here; repeat (first | exact Over.nil | apply Over.cons)) | apply SetAt.there)) (by rfl) (by exact szf138)) ?_
      clear hs; rintro _ w hs
      refine WL.next ?_
      refine WC.seq ?_
      refine WL.p (by rfl) (Yl.move (by rfl)) ?_
      refine WL.p (by rfl) (Yl.loadAB agg138 (by rfl) hs (by repeat (first | exact List.mem_cons_self | apply List.mem_cons_of_mem)) (by rfl) (by rfl)) ?_
      refine WL.callp hs (by rfl) (Yc.value (by rfl) (by rfl) hfn_del (by rfl)) (hf_del _ (List.mem_of_getElem? hdd) _ hs.tch) ?_
      clear hs; intro w hs
      refine WL.p (by rfl) (Yl.not (by rfl)) ?_
      refine WL.next ?_
      refine WC.condS (by rfl) (fun h3 => ?_) (fun h3 => ?_)
      ·
        replace h3 := not_eq_true h3
        refine WC.seq ?_
        refine WL.p (by rfl) (Yl.move (by rfl)) ?_
        refine WL.p (by rfl) (Yl.move (by rfl)) ?_
        refine WL.p (by rfl) (Yl.loadAB agg138 (by rfl) hs (by repeat (first | exact List.mem_cons_self | apply List.mem_cons_of_mem)) (by rfl) (by rfl)) ?_
        refine WL.p (by rfl) (Yl.indexAddrV slt60 (by rfl) hJ3 (by rfl) (hs.okow (x := z) (F := F1) (by repeat (first | exact List.mem_cons_self | apply List.mem_cons_of_mem))) (by rfl) (List.getElem?_eq_getElem hml)) ?_
        refine WL.s (Yr.storeE (u := d) (k := m) (hs.flat (x := (d : TEntry)) (by exact Flat.any ((Own.ok hF : Sl.Ok _ s).elems d (List.mem_of_getElem? hdd)))) (by repeat (first | exact Sel.nil | (apply Sel.cons; (repeat (first | exact Ext.here | apply Ext.there))))) (by rfl) (by rfl) (by rfl) (by exact hml) ⟨_, by rfl, by rfl⟩ szf138) ?_
        clear hs; rintro _ w ⟨F2, hs⟩
        refine WL.next ?_
        refine WC.region ?_
        refine WL.p (by rfl) (Yl.move (by rfl)) ?_
        refine WL.p (by rfl) (Yl.add (by rfl) (by rfl) (by omega)) ?_
        refine WL.p (by rfl) (Yl.assign (by rfl)) ?_
        refine WL.nil ?_
        refine At.blocknormal ?_
        refine At.then_ ?_
        refine WC.region ?_
        refine WL.p (by rfl) (Yl.move (by rfl)) ?_
        refine WL.p (by rfl) (Yl.add (by rfl) (by rfl) (by omega)) ?_
        refine WL.p (by rfl) (Yl.assign (by rfl)) ?_
        refine WL.nil ?_
        refine At.roundC (m + 1, k + 1, ⟨z.l.set m d, z.a, z.c⟩, _) (hs.only (by repeat (first | exact Sel.nil | (apply Sel.cons; (repeat (first | exact Ext.here | apply Ext.there)))))) ⟨by rfl, by rfl, by rfl, by rfl, by rfl, by rfl, by rfl, by rfl, by rfl, by rfl, trivial⟩ ⟨by rfl, by rfl, trivial⟩ ?_ ?_
        ·
          show s.l.length - (k + 1) < s.l.length - k
          omega
        ·
          exact ⟨by omega, by omega, by rw [Sl.v_set]; exact hJ3, by simpa using hJ4, by rw [take_set_succ hml, hJ5]; exact filter_yes hdd (by simp_all), by rw [List.drop_set_of_lt (by omega)]; exact drop_next hJ6⟩
      ·
        replace h3 := not_eq_false h3
        refine WC.skip ?_
        refine At.blocknormal ?_
        refine At.then_ ?_
        refine WC.region ?_
        refine WL.p (by rfl) (Yl.move (by rfl)) ?_
        refine WL.p (by rfl) (Yl.add (by rfl) (by rfl) (by omega)) ?_
        refine WL.p (by rfl) (Yl.assign (by rfl)) ?_
        refine WL.nil ?_
        refine At.roundC (m, k + 1, z, F1) (hs.only (by repeat (first | exact Sel.nil | (apply Sel.cons; (repeat (first | exact Ext.here | apply Ext.there)))))) ⟨by rfl, by rfl, by rfl, by rfl, by rfl, by rfl, by rfl, by rfl, by rfl, by rfl, trivial⟩ ⟨by rfl, by rfl, trivial⟩ ?_ ?_
        ·
          show s.l.length - (k + 1) < s.l.length - k
          omega
        ·
          exact ⟨by omega, by omega, hJ3, hJ4, by rw [hJ5]; exact filter_no hdd (by simp_all), drop_next hJ6⟩
    ·
      replace h2 := of_decide_eq_false h2
      refine WC.exit ?_
      refine At.thenexit ?_
      refine At.thenexit ?_
      refine At.blockexit ?_
      refine At.then_ ?_
      refine WC.seq ?_
      refine WL.p (by rfl) (Yl.move (by rfl)) ?_
      refine WL.p (by rfl) (Yl.move (by rfl)) ?_
      refine WL.p (by rfl) (Yl.slice_sl (s := z) (l := m) (h := z.l.length) slt60 (by exact (congrArg some hJ3).symm) (Sl.Ok.le (hs.okow (x := z) (F := F1) (by repeat (first | exact List.mem_cons_self | apply List.mem_cons_of_mem)))) ⟨_, by rfl⟩ rfl (by omega) (by first | omega | exact Nat.le_refl _)) ?_
      refine WL.s (Yr.clearTail (s := z) (F := F1) (k := m) hs elt60 (by repeat (first | exact Sel.nil | (apply Sel.cons; (repeat (first | exact Ext.here | apply Ext.there))))) (by rfl) (by omega) (fun w => TEntry.zok w)) ?_
      clear hs; rintro _ w ⟨s3, hv3, hl3, hs⟩
      refine WL.next ?_
      refine WC.seq ?_
      refine WL.p (by rfl) (Yl.move (by rfl)) ?_
      refine WL.p (by rfl) (Yl.move (by rfl)) ?_
      refine WL.p (by rfl) (Yl.slice_sl (s := s3) (l := 0) (h := m) slt60 (by exact (congrArg some (hv3.trans hJ3)).symm) (Sl.Ok.le (hs.okow (x := s3) (F := F1) (by repeat (first | exact List.mem_cons_self | apply List.mem_cons_of_mem)))) rfl ⟨_, by rfl⟩ (by omega) (by first | omega | (rw [hl3]; simp; omega))) ?_
      refine WL.p (by rfl) (Yl.assign (by rfl)) ?_
      refine WL.next ?_
      refine WC.ret ?_
      refine fin1' rfl (by rfl) ?_
      obtain ⟨F9, hs⟩ := Sat.cutow (lo := 0) (hi := m) (hs.sel (D := [ow s3 F1]) (by repeat (first | exact Sel.nil | (apply Sel.cons; (repeat (first | exact Ext.here | apply Ext.there)))))) (Nat.zero_le _) (by rw [hl3]; simp; omega)
      exact RetO.of hs List.mem_cons_self rfl (by rw [Sl.cut_head, hl3, List.take_append_of_le_length (by simp; omega), List.take_take, Nat.min_self, hJ5, show k = s.l.length from by omega, List.take_length])

theorem c_impl_ForgetHost_1 (e : TEntry) (top : Str) (b1 : Nat) (w : World)   (hc1 : CellsAt w b1 0 [S top]) : Calls Try.prog 91 [.agg #[S e.top, S e.to.host, S e.to.path, I e.response.status, I e.response.kind, S e.response.body, I e.response.age, Bo e.response.shares, S e.response.policy, I e.until_], bp b1 0].toArray w (RetP w (Bo (decide (e.top = top)))) := by
  refine enterN 8 Try.func91 rfl rfl rfl ?_
  have hs := Sat.start w
  refine WC.seq ?_
  refine WL.r (by rfl) (Yr.box hs (by rfl) (by rfl)) ?_
  clear hs; rintro _ w ⟨b1, rfl, hb, hs⟩; clear hb
  refine WL.p (by rfl) (Yl.assign (by rfl)) ?_
  refine WL.next ?_
  refine WC.seq ?_
  refine WL.p (by rfl) (Yl.fieldAddr fa138_0 (by rfl)) ?_
  refine WL.p (by rfl) (Yl.loadB sca9 (by rfl) hs (by repeat (first | exact List.mem_cons_self | apply List.mem_cons_of_mem)) (by rfl)) ?_
  refine WL.p (by rfl) (Yl.loadC0 sca9 (by rfl) (hc1.ext hs.below) (by rfl)) ?_
  refine WL.p (by rfl) (Yl.eqs (by rfl) (by rfl)) ?_
  refine WL.p (by rfl) (Yl.assign (by rfl)) ?_
  refine WL.next ?_
  refine WC.ret ?_
  refine fin1' rfl (by rfl) ?_
  refine RetP.mk hs ?_
  rfl

theorem c_impl_ForgetHost (c : PCache) (top : Str) (w : World) (h_c : Ph.ok w c) (hb : c.lg.size ≤ 1048576) : Calls Try.prog 37 [.agg #[Sl.v c.entries], S top].toArray w (Ret w (fun v w' => ∃ x : PCache, v = .agg (Ph.enc x).toArray ∧ x.lg = c.lg.forget top ∧ Fresh w x w')) := by
  refine enterN 14 Try.func37 rfl rfl rfl ?_
  have hs := Sat.start w
  refine WC.seq ?_
  refine WL.r (by rfl) (Yr.box hs (by rfl) (by rfl)) ?_
  clear hs; rintro _ w ⟨b1, rfl, hb, hs⟩; clear hb
  refine WL.r (by rfl) (Yr.box hs (by rfl) (by rfl)) ?_
  clear hs; rintro _ w ⟨b2, rfl, hb, hs⟩; clear hb
  refine WL.r (by rfl) (Yr.alloc hs zt62) ?_
  clear hs; rintro _ w ⟨b3, rfl, hb, hs⟩; clear hb
  refine WL.next ?_
  refine WC.seq ?_
  refine WL.p (by rfl) (Yl.loadAB agg62 (by rfl) hs (by repeat (first | exact List.mem_cons_self | apply List.mem_cons_of_mem)) (by rfl) (by rfl)) ?_
  refine WL.call hs (by rfl) (Yc.func (by rfl) fn89) (c_impl_copyCache _ _ (Ph.old h_c hs) (by first | assumption | omega | (simp only [lsz] at *; omega) | (simp only [lsz, strsz, TPolicy.size, TCache.size, TAddr.size, TRequest.size, TEntry.size, TResponse.size, TLine.size] at *; omega) | (simp only [lsz_map, TPage.size, TBuilder.size, TNode.size, TToken.size, TTokenizer.size, TServer.size, TFile.size, TNet.size, TCache.size, TSheet.size, strsz] at *; omega) | (simp only [lsz_map, TPage.size, TBuilder.size, TNode.size, TToken.size, TTokenizer.size, TServer.size, TFile.size, TNet.size, TCache.size, TSheet.size, strsz, lsz] at *; omega))) ?_
  have hs0 := hs; clear hs; intro v w hb hR hs; clear hs
  obtain ⟨x4, rfl, hx4, hf4⟩ := hR
  obtain ⟨F4, hs⟩ := hf4.sat hs0 hb; clear hs0 hf4
  refine WL.r (by rfl) (Yr.alloc hs zt62) ?_
  clear hs; rintro _ w ⟨b5, rfl, hb, hs⟩; clear hb
  refine WL.s (Yr.storeB hs (by rfl) (by rfl) (by rfl) (by repeat (first | exact Repl.here | apply Repl.there)) (by repeat (first | (apply SetAt.here; repeat (first | exact Over.nil | apply Over.cons)) | apply SetAt.there)) (by rfl) (by exact szf62)) ?_
  clear hs; rintro _ w hs
  refine WL.next ?_
  refine WC.seq ?_
  refine WL.p (by rfl) (Yl.fieldAddr fa62_0 (by rfl)) ?_
  refine WL.p (by rfl) (Yl.loadB sca60 (by rfl) hs (by repeat (first | exact List.mem_cons_self | apply List.mem_cons_of_mem)) (by rfl)) ?_
  refine WL.p (by rfl) (Yl.makeFunc (by rfl) (by rfl)) ?_
  obtain ⟨K6_0, hfl6, hs⟩ := PCache.split (hs.sel (D := [ow x4 F4]) (by repeat (first | exact Sel.nil | (apply Sel.cons; (repeat (first | exact Ext.here | apply Ext.there))))))
  try simp only [List.cons_append, List.nil_append] at hs
  refine WL.callo (s := x4.entries) (F := K6_0) hs (by repeat (first | exact Sel.nil | (apply Sel.cons; (repeat (first | exact Ext.here | apply Ext.there))))) (by rfl) (Yc.func (by rfl) fn90) (c_slices_DeleteFunc___impl_Entry_impl_Entry_ x4.entries 91 _ (fun e => decide (e.top = top)) _ K6_0 (own_of hs (by repeat (first | exact List.mem_cons_self | apply List.mem_cons_of_mem))) (nodup_of hs (by repeat (first | exact List.mem_cons_self | apply List.mem_cons_of_mem))) fn91 (fun x hx w1 ht => c_impl_ForgetHost_1 x _ _ w1 (hs.box_touch (s := x4.entries) (F := K6_0) (by repeat (first | exact Sel.nil | (apply Sel.cons; (repeat (first | exact Ext.here | apply Ext.there))))) ht))) ?_
  clear hs; intro x7 F7 w hx7 hs
  refine WL.p (by rfl) (Yl.fieldAddr fa62_0 (by rfl)) ?_
  refine WL.s (Yr.storeB hs (by rfl) (by rfl) (by rfl) (by repeat (first | exact Repl.here | apply Repl.there)) (by repeat (first | (apply SetAt.here; repeat (first | exact Over.nil | apply Over.cons)) | apply SetAt.there)) (by rfl) (by exact szf60)) ?_
  clear hs; rintro _ w hs
  refine WL.next ?_
  refine WC.seq ?_
  refine WL.p (by rfl) (Yl.loadAB agg62 (by rfl) hs (by repeat (first | exact List.mem_cons_self | apply List.mem_cons_of_mem)) (by rfl) (by rfl)) ?_
  refine WL.s (Yr.storeB hs (by rfl) (by rfl) (by rfl) (by repeat (first | exact Repl.here | apply Repl.there)) (by repeat (first | (apply SetAt.here; repeat (first | exact Over.nil | apply Over.cons)) | apply SetAt.there)) (by rfl) (by exact szf62)) ?_
  clear hs; rintro _ w hs
  refine WL.next ?_
  refine WC.ret ?_
  refine fin1c rfl agg62 (by rfl) hs (by repeat (first | exact List.mem_cons_self | apply List.mem_cons_of_mem)) (by rfl) ?_
  refine Ret.mk hs ?_
  refine ⟨⟨x7⟩, rfl, ?_, ?_⟩
  · simp_all [TCache.forget]
  · exact (PCache.join _ (hs.only (D := [ow x7 F7]) (by repeat (first | exact Sel.nil | (apply Sel.cons; (repeat (first | exact Ext.here | apply Ext.there)))))) ).fresh List.mem_cons_self

theorem c_laws_eqResponse (a : TResponse) (b : TResponse) (w : World)   : Calls Try.prog 33 [.agg #[I a.status, I a.kind, S a.body, I a.age, Bo a.shares, S a.policy], .agg #[I b.status, I b.kind, S b.body, I b.age, Bo b.shares, S b.policy]].toArray w (RetP w (Bo (decide (a = b)))) := by
  refine enterN 35 Try.func33 rfl rfl rfl ?_
  have hs := Sat.start w
  refine WC.seq ?_
  refine WL.r (by rfl) (Yr.box hs (by rfl) (by rfl)) ?_
  clear hs; rintro _ w ⟨b1, rfl, hb, hs⟩; clear hb
  refine WL.r (by rfl) (Yr.box hs (by rfl) (by rfl)) ?_
  clear hs; rintro _ w ⟨b2, rfl, hb, hs⟩; clear hb
  refine WL.p (by rfl) (Yl.assign (by rfl)) ?_
  refine WL.next ?_
  refine WC.seq' ?_
  refine WC.seq ?_
  refine WL.p (by rfl) (Yl.fieldAddr fa51_0 (by rfl)) ?_
  refine WL.p (by rfl) (Yl.loadB sca3 (by rfl) hs (by repeat (first | exact List.mem_cons_self | apply List.mem_cons_of_mem)) (by rfl)) ?_
  refine WL.p (by rfl) (Yl.fieldAddr fa51_0 (by rfl)) ?_
  refine WL.p (by rfl) (Yl.loadB sca3 (by rfl) hs (by repeat (first | exact List.mem_cons_self | apply List.mem_cons_of_mem)) (by rfl)) ?_
  refine WL.p (by rfl) (Yl.nei (by rfl) (by rfl)) ?_
  refine WL.next ?_
  refine WC.condS (by rfl) (fun h1 => ?_) (fun h1 => ?_)
  ·
    replace h1 := not_eq_true h1
    replace h1 := of_decide_eq_false h1
    refine WC.seq ?_
    refine WL.p (by rfl) (Yl.assign (by rfl)) ?_
    refine WL.next ?_
    refine WC.ret ?_
    refine At.thenret ?_
    refine fin1' rfl (by rfl) ?_
    refine RetP.mk hs ?_
    simp_all [TResponse.ext_iff]
  ·
    replace h1 := not_eq_false h1
    replace h1 := of_decide_eq_true h1
    refine WC.skipn ?_
    refine WC.seq' ?_
    refine WC.seq ?_
    refine WL.p (by rfl) (Yl.fieldAddr fa51_1 (by rfl)) ?_
    refine WL.p (by rfl) (Yl.loadB sca3 (by rfl) hs (by repeat (first | exact List.mem_cons_self | apply List.mem_cons_of_mem)) (by rfl)) ?_
    refine WL.p (by rfl) (Yl.fieldAddr fa51_1 (by rfl)) ?_
    refine WL.p (by rfl) (Yl.loadB sca3 (by rfl) hs (by repeat (first | exact List.mem_cons_self | apply List.mem_cons_of_mem)) (by rfl)) ?_
    refine WL.p (by rfl) (Yl.nei (by rfl) (by rfl)) ?_
    refine WL.next ?_
    refine WC.condS (by rfl) (fun h2 => ?_) (fun h2 => ?_)
    ·
      replace h2 := not_eq_true h2
      replace h2 := of_decide_eq_false h2
      refine WC.seq ?_
      refine WL.p (by rfl) (Yl.assign (by rfl)) ?_
      refine WL.next ?_
      refine WC.ret ?_
      refine At.thenret ?_
      refine fin1' rfl (by rfl) ?_
      refine RetP.mk hs ?_
      simp_all [TResponse.ext_iff]
    ·
      replace h2 := not_eq_false h2
      replace h2 := of_decide_eq_true h2
      refine WC.skipn ?_
      refine WC.seq' ?_
      refine WC.seq ?_
      refine WL.p (by rfl) (Yl.fieldAddr fa51_2 (by rfl)) ?_
      refine WL.p (by rfl) (Yl.loadB sca9 (by rfl) hs (by repeat (first | exact List.mem_cons_self | apply List.mem_cons_of_mem)) (by rfl)) ?_
      refine WL.p (by rfl) (Yl.fieldAddr fa51_2 (by rfl)) ?_
      refine WL.p (by rfl) (Yl.loadB sca9 (by rfl) hs (by repeat (first | exact List.mem_cons_self | apply List.mem_cons_of_mem)) (by rfl)) ?_
      refine WL.p (by rfl) (Yl.nes (by rfl) (by rfl)) ?_
      refine WL.next ?_
      refine WC.condS (by rfl) (fun h3 => ?_) (fun h3 => ?_)
      ·
        replace h3 := not_eq_true h3
        replace h3 := of_decide_eq_false h3
        refine WC.seq ?_
        refine WL.p (by rfl) (Yl.assign (by rfl)) ?_
        refine WL.next ?_
        refine WC.ret ?_
        refine At.thenret ?_
        refine fin1' rfl (by rfl) ?_
        refine RetP.mk hs ?_
        simp_all [TResponse.ext_iff]
      ·
        replace h3 := not_eq_false h3
        replace h3 := of_decide_eq_true h3
        refine WC.skipn ?_
        refine WC.seq' ?_
        refine WC.seq ?_
        refine WL.p (by rfl) (Yl.fieldAddr fa51_3 (by rfl)) ?_
        refine WL.p (by rfl) (Yl.loadB sca3 (by rfl) hs (by repeat (first | exact List.mem_cons_self | apply List.mem_cons_of_mem)) (by rfl)) ?_
        refine WL.p (by rfl) (Yl.fieldAddr fa51_3 (by rfl)) ?_
        refine WL.p (by rfl) (Yl.loadB sca3 (by rfl) hs (by repeat (first | exact List.mem_cons_self | apply List.mem_cons_of_mem)) (by rfl)) ?_
        refine WL.p (by rfl) (Yl.nei (by rfl) (by rfl)) ?_
        refine WL.next ?_
        refine WC.condS (by rfl) (fun h4 => ?_) (fun h4 => ?_)
        ·
          replace h4 := not_eq_true h4
          replace h4 := of_decide_eq_false h4
          refine WC.seq ?_
          refine WL.p (by rfl) (Yl.assign (by rfl)) ?_
          refine WL.next ?_
          refine WC.ret ?_
          refine At.thenret ?_
          refine fin1' rfl (by rfl) ?_
          refine RetP.mk hs ?_
          simp_all [TResponse.ext_iff]
        ·
          replace h4 := not_eq_false h4
          replace h4 := of_decide_eq_true h4
          refine WC.skipn ?_
          refine WC.seq' ?_
          refine WC.seq ?_
          refine WL.p (by rfl) (Yl.fieldAddr fa51_4 (by rfl)) ?_
          refine WL.p (by rfl) (Yl.loadB sca4 (by rfl) hs (by repeat (first | exact List.mem_cons_self | apply List.mem_cons_of_mem)) (by rfl)) ?_
          refine WL.p (by rfl) (Yl.fieldAddr fa51_4 (by rfl)) ?_
          refine WL.p (by rfl) (Yl.loadB sca4 (by rfl) hs (by repeat (first | exact List.mem_cons_self | apply List.mem_cons_of_mem)) (by rfl)) ?_
          refine WL.p (by rfl) (Yl.neb bool4 (by rfl) (by rfl)) ?_
          refine WL.next ?_
          refine WC.condS (by rfl) (fun h5 => ?_) (fun h5 => ?_)
          ·
            replace h5 := not_eq_true h5
            replace h5 := beq_false h5
            refine WC.seq ?_
            refine WL.p (by rfl) (Yl.assign (by rfl)) ?_
            refine WL.next ?_
            refine WC.ret ?_
            refine At.thenret ?_
            refine fin1' rfl (by rfl) ?_
            refine RetP.mk hs ?_
            simp_all [TResponse.ext_iff]
          ·
            replace h5 := not_eq_false h5
            replace h5 := beq_true h5
            refine WC.skipn ?_
            refine WC.seq' ?_
            refine WC.seq ?_
            refine WL.p (by rfl) (Yl.fieldAddr fa51_5 (by rfl)) ?_
            refine WL.p (by rfl) (Yl.loadB sca9 (by rfl) hs (by repeat (first | exact List.mem_cons_self | apply List.mem_cons_of_mem)) (by rfl)) ?_
            refine WL.p (by rfl) (Yl.fieldAddr fa51_5 (by rfl)) ?_
            refine WL.p (by rfl) (Yl.loadB sca9 (by rfl) hs (by repeat (first | exact List.mem_cons_self | apply List.mem_cons_of_mem)) (by rfl)) ?_
            refine WL.p (by rfl) (Yl.nes (by rfl) (by rfl)) ?_
            refine WL.next ?_
            refine WC.condS (by rfl) (fun h6 => ?_) (fun h6 => ?_)
            ·
              replace h6 := not_eq_true h6
              replace h6 := of_decide_eq_false h6
              refine WC.seq ?_
              refine WL.p (by rfl) (Yl.assign (by rfl)) ?_
              refine WL.next ?_
              refine WC.ret ?_
              refine At.thenret ?_
              refine fin1' rfl (by rfl) ?_
              refine RetP.mk hs ?_
              simp_all [TResponse.ext_iff]
            ·
              replace h6 := not_eq_false h6
              replace h6 := of_decide_eq_true h6
              refine WC.skipn ?_
              refine WC.seq ?_
              refine WL.p (by rfl) (Yl.assign (by rfl)) ?_
              refine WL.next ?_
              refine WC.ret ?_
              refine fin1' rfl (by rfl) ?_
              refine RetP.mk hs ?_
              simp_all [TResponse.ext_iff]

theorem c_laws_eqAddr (a : TAddr) (b : TAddr) (w : World)   : Calls Try.prog 117 [.agg #[S a.host, S a.path], .agg #[S b.host, S b.path]].toArray w (RetP w (Bo (decide (a = b)))) := by
  refine enterN 15 Try.func117 rfl rfl rfl ?_
  have hs := Sat.start w
  refine WC.seq ?_
  refine WL.r (by rfl) (Yr.box hs (by rfl) (by rfl)) ?_
  clear hs; rintro _ w ⟨b1, rfl, hb, hs⟩; clear hb
  refine WL.r (by rfl) (Yr.box hs (by rfl) (by rfl)) ?_
  clear hs; rintro _ w ⟨b2, rfl, hb, hs⟩; clear hb
  refine WL.p (by rfl) (Yl.assign (by rfl)) ?_
  refine WL.next ?_
  refine WC.seq' ?_
  refine WC.seq ?_
  refine WL.p (by rfl) (Yl.fieldAddr fa44_0 (by rfl)) ?_
  refine WL.p (by rfl) (Yl.loadB sca9 (by rfl) hs (by repeat (first | exact List.mem_cons_self | apply List.mem_cons_of_mem)) (by rfl)) ?_
  refine WL.p (by rfl) (Yl.fieldAddr fa44_0 (by rfl)) ?_
  refine WL.p (by rfl) (Yl.loadB sca9 (by rfl) hs (by repeat (first | exact List.mem_cons_self | apply List.mem_cons_of_mem)) (by rfl)) ?_
  refine WL.p (by rfl) (Yl.nes (by rfl) (by rfl)) ?_
  refine WL.next ?_
  refine WC.condS (by rfl) (fun h1 => ?_) (fun h1 => ?_)
  ·
    replace h1 := not_eq_true h1
    replace h1 := of_decide_eq_false h1
    refine WC.seq ?_
    refine WL.p (by rfl) (Yl.assign (by rfl)) ?_
    refine WL.next ?_
    refine WC.ret ?_
    refine At.thenret ?_
    refine fin1' rfl (by rfl) ?_
    refine RetP.mk hs ?_
    simp_all [TAddr.ext_iff]
  ·
    replace h1 := not_eq_false h1
    replace h1 := of_decide_eq_true h1
    refine WC.skipn ?_
    refine WC.seq' ?_
    refine WC.seq ?_
    refine WL.p (by rfl) (Yl.fieldAddr fa44_1 (by rfl)) ?_
    refine WL.p (by rfl) (Yl.loadB sca9 (by rfl) hs (by repeat (first | exact List.mem_cons_self | apply List.mem_cons_of_mem)) (by rfl)) ?_
    refine WL.p (by rfl) (Yl.fieldAddr fa44_1 (by rfl)) ?_
    refine WL.p (by rfl) (Yl.loadB sca9 (by rfl) hs (by repeat (first | exact List.mem_cons_self | apply List.mem_cons_of_mem)) (by rfl)) ?_
    refine WL.p (by rfl) (Yl.nes (by rfl) (by rfl)) ?_
    refine WL.next ?_
    refine WC.condS (by rfl) (fun h2 => ?_) (fun h2 => ?_)
    ·
      replace h2 := not_eq_true h2
      replace h2 := of_decide_eq_false h2
      refine WC.seq ?_
      refine WL.p (by rfl) (Yl.assign (by rfl)) ?_
      refine WL.next ?_
      refine WC.ret ?_
      refine At.thenret ?_
      refine fin1' rfl (by rfl) ?_
      refine RetP.mk hs ?_
      simp_all [TAddr.ext_iff]
    ·
      replace h2 := not_eq_false h2
      replace h2 := of_decide_eq_true h2
      refine WC.skipn ?_
      refine WC.seq ?_
      refine WL.p (by rfl) (Yl.assign (by rfl)) ?_
      refine WL.next ?_
      refine WC.ret ?_
      refine fin1' rfl (by rfl) ?_
      refine RetP.mk hs ?_
      simp_all [TAddr.ext_iff]

theorem c_laws_eqEntry (a : TEntry) (b : TEntry) (w : World)   : Calls Try.prog 145 [.agg #[S a.top, S a.to.host, S a.to.path, I a.response.status, I a.response.kind, S a.response.body, I a.response.age, Bo a.response.shares, S a.response.policy, I a.until_], .agg #[S b.top, S b.to.host, S b.to.path, I b.response.status, I b.response.kind, S b.response.body, I b.response.age, Bo b.response.shares, S b.response.policy, I b.until_]].toArray w (RetP w (Bo (decide (a = b)))) := by
  refine enterN 27 Try.func145 rfl rfl rfl ?_
  have hs := Sat.start w
  refine WC.seq ?_
  refine WL.r (by rfl) (Yr.box hs (by rfl) (by rfl)) ?_
  clear hs; rintro _ w ⟨b1, rfl, hb, hs⟩; clear hb
  refine WL.r (by rfl) (Yr.box hs (by rfl) (by rfl)) ?_
  clear hs; rintro _ w ⟨b2, rfl, hb, hs⟩; clear hb
  refine WL.p (by rfl) (Yl.assign (by rfl)) ?_
  refine WL.next ?_
  refine WC.seq' ?_
  refine WC.seq ?_
  refine WL.p (by rfl) (Yl.fieldAddr fa138_0 (by rfl)) ?_
  refine WL.p (by rfl) (Yl.loadB sca9 (by rfl) hs (by repeat (first | exact List.mem_cons_self | apply List.mem_cons_of_mem)) (by rfl)) ?_
  refine WL.p (by rfl) (Yl.fieldAddr fa138_0 (by rfl)) ?_
  refine WL.p (by rfl) (Yl.loadB sca9 (by rfl) hs (by repeat (first | exact List.mem_cons_self | apply List.mem_cons_of_mem)) (by rfl)) ?_
  refine WL.p (by rfl) (Yl.nes (by rfl) (by rfl)) ?_
  refine WL.next ?_
  refine WC.condS (by rfl) (fun h1 => ?_) (fun h1 => ?_)
  ·
    replace h1 := not_eq_true h1
    replace h1 := of_decide_eq_false h1
    refine WC.seq ?_
    refine WL.p (by rfl) (Yl.assign (by rfl)) ?_
    refine WL.next ?_
    refine WC.ret ?_
    refine At.thenret ?_
    refine fin1' rfl (by rfl) ?_
    refine RetP.mk hs ?_
    simp_all [TEntry.ext_iff]
  ·
    replace h1 := not_eq_false h1
    replace h1 := of_decide_eq_true h1
    refine WC.skipn ?_
    refine WC.seq' ?_
    refine WC.seq ?_
    refine WL.p (by rfl) (Yl.fieldAddr fa138_1 (by rfl)) ?_
    refine WL.p (by rfl) (Yl.loadAB agg44 (by rfl) hs (by repeat (first | exact List.mem_cons_self | apply List.mem_cons_of_mem)) (by rfl) (by rfl)) ?_
    refine WL.p (by rfl) (Yl.fieldAddr fa138_1 (by rfl)) ?_
    refine WL.p (by rfl) (Yl.loadAB agg44 (by rfl) hs (by repeat (first | exact List.mem_cons_self | apply List.mem_cons_of_mem)) (by rfl) (by rfl)) ?_
    refine WL.callp hs (by rfl) (Yc.func (by rfl) fn117) (c_laws_eqAddr _ _ _) ?_
    clear hs; intro w hs
    refine WL.p (by rfl) (Yl.not (by rfl)) ?_
    refine WL.next ?_
    refine WC.condS (by rfl) (fun h2 => ?_) (fun h2 => ?_)
    ·
      replace h2 := not_eq_true h2
      replace h2 := of_decide_eq_false h2
      refine WC.seq ?_
      refine WL.p (by rfl) (Yl.assign (by rfl)) ?_
      refine WL.next ?_
      refine WC.ret ?_
      refine At.thenret ?_
      refine fin1' rfl (by rfl) ?_
      refine RetP.mk hs ?_
      simp_all [TEntry.ext_iff]
    ·
      replace h2 := not_eq_false h2
      replace h2 := of_decide_eq_true h2
      refine WC.skipn ?_
      refine WC.seq' ?_
      refine WC.seq ?_
      refine WL.p (by rfl) (Yl.fieldAddr fa138_2 (by rfl)) ?_
      refine WL.p (by rfl) (Yl.loadAB agg51 (by rfl) hs (by repeat (first | exact List.mem_cons_self | apply List.mem_cons_of_mem)) (by rfl) (by rfl)) ?_
      refine WL.p (by rfl) (Yl.fieldAddr fa138_2 (by rfl)) ?_
      refine WL.p (by rfl) (Yl.loadAB agg51 (by rfl) hs (by repeat (first | exact List.mem_cons_self | apply List.mem_cons_of_mem)) (by rfl) (by rfl)) ?_
      refine WL.callp hs (by rfl) (Yc.func (by rfl) fn33) (c_laws_eqResponse _ _ _) ?_
      clear hs; intro w hs
      refine WL.p (by rfl) (Yl.not (by rfl)) ?_
      refine WL.next ?_
      refine WC.condS (by rfl) (fun h3 => ?_) (fun h3 => ?_)
      ·
        replace h3 := not_eq_true h3
        replace h3 := of_decide_eq_false h3
        refine WC.seq ?_
        refine WL.p (by rfl) (Yl.assign (by rfl)) ?_
        refine WL.next ?_
        refine WC.ret ?_
        refine At.thenret ?_
        refine fin1' rfl (by rfl) ?_
        refine RetP.mk hs ?_
        simp_all [TEntry.ext_iff]
      ·
        replace h3 := not_eq_false h3
        replace h3 := of_decide_eq_true h3
        refine WC.skipn ?_
        refine WC.seq' ?_
        refine WC.seq ?_
        refine WL.p (by rfl) (Yl.fieldAddr fa138_3 (by rfl)) ?_
        refine WL.p (by rfl) (Yl.loadB sca3 (by rfl) hs (by repeat (first | exact List.mem_cons_self | apply List.mem_cons_of_mem)) (by rfl)) ?_
        refine WL.p (by rfl) (Yl.fieldAddr fa138_3 (by rfl)) ?_
        refine WL.p (by rfl) (Yl.loadB sca3 (by rfl) hs (by repeat (first | exact List.mem_cons_self | apply List.mem_cons_of_mem)) (by rfl)) ?_
        refine WL.p (by rfl) (Yl.nei (by rfl) (by rfl)) ?_
        refine WL.next ?_
        refine WC.condS (by rfl) (fun h4 => ?_) (fun h4 => ?_)
        ·
          replace h4 := not_eq_true h4
          replace h4 := of_decide_eq_false h4
          refine WC.seq ?_
          refine WL.p (by rfl) (Yl.assign (by rfl)) ?_
          refine WL.next ?_
          refine WC.ret ?_
          refine At.thenret ?_
          refine fin1' rfl (by rfl) ?_
          refine RetP.mk hs ?_
          simp_all [TEntry.ext_iff]
        ·
          replace h4 := not_eq_false h4
          replace h4 := of_decide_eq_true h4
          refine WC.skipn ?_
          refine WC.seq ?_
          refine WL.p (by rfl) (Yl.assign (by rfl)) ?_
          refine WL.next ?_
          refine WC.ret ?_
          refine fin1' rfl (by rfl) ?_
          refine RetP.mk hs ?_
          simp_all [TEntry.ext_iff]

theorem c_laws_eqEntryS (a : (Sl TEntry)) (b : (Sl TEntry)) (w : World) (h_a : Ph.ok w a) (h_b : Ph.ok w b)  : Calls Try.prog 92 [Sl.v a, Sl.v b].toArray w (RetP w (Bo (decide (a.l = b.l)))) := by
  have hw := h_a.lt
  refine enterN 27 Try.func92 rfl rfl rfl ?_
  have hs := Sat.start w
  refine WC.seq ?_
  refine WL.p (by rfl) (Yl.assign (by rfl)) ?_
  refine WL.next ?_
  refine WC.seq' ?_
  refine WC.seq ?_
  refine WL.p (by rfl) (Yl.move (by rfl)) ?_
  refine WL.p (by rfl) (Yl.len_sl slu60 (by rfl)) ?_
  refine WL.p (by rfl) (Yl.move (by rfl)) ?_
  refine WL.p (by rfl) (Yl.len_sl slu60 (by rfl)) ?_
  refine WL.p (by rfl) (Yl.nei (by rfl) (by rfl)) ?_
  refine WL.next ?_
  refine WC.condS (by rfl) (fun h1 => ?_) (fun h1 => ?_)
  ·
    replace h1 := not_eq_true h1
    replace h1 := of_decide_eq_false h1
    refine WC.seq ?_
    refine WL.p (by rfl) (Yl.assign (by rfl)) ?_
    refine WL.next ?_
    refine WC.ret ?_
    refine At.thenret ?_
    refine fin1' rfl (by rfl) ?_
    refine RetP.mk hs ?_
    have hne : ¬ a.l = b.l := by
      intro h
      have h2 := congrArg List.length h
      try simp at h2
      omega
    simp only [hne, decide_false]
  ·
    replace h1 := not_eq_false h1
    replace h1 := of_decide_eq_true h1
    refine WC.skipn ?_
    refine WC.seq' ?_
    refine WC.seq ?_
    refine WL.p (by rfl) (Yl.assign (by rfl)) ?_
    refine WL.next ?_
    refine WC.block ?_
    refine WC.loopC (ι := Nat) (fun k => a.l.length - k) (fun k => [(5, I (k : Int))]) (fun _ => []) (fun k => decide (a.l = b.l) = decide (a.l.drop k = b.l.drop k)) [(0, _), (1, _), (6, _), (7, _), (8, _), (9, _), (10, _)] 0 (hs) ⟨by rfl, by rfl, by rfl, by rfl, by rfl, by rfl, by rfl, trivial⟩ ⟨by rfl, trivial⟩ ?_ ?_
    ·
      simp
    clear hs; rintro k w hJ hs
    simp only [List.nil_append] at hs
    refine WC.seq' ?_
    refine WC.seq ?_
    refine WL.p (by rfl) (Yl.move (by rfl)) ?_
    refine WL.p (by rfl) (Yl.move (by rfl)) ?_
    refine WL.p (by rfl) (Yl.len_sl slu60 (by rfl)) ?_
    refine WL.p (by rfl) (Yl.lss (by rfl) (by rfl)) ?_
    refine WL.next ?_
    refine WC.condS (by rfl) (fun h2 => ?_) (fun h2 => ?_)
    ·
      replace h2 := of_decide_eq_true h2
      obtain ⟨d, hd⟩ := exists_get (l := a.l) (k := k) (by omega)
      obtain ⟨d2, hd2⟩ := exists_get (l := b.l) (k := k) (by omega)
      rw [drop_cons hd, drop_cons hd2] at hJ
      refine WC.skipn ?_
      refine WC.seq' ?_
      refine WC.block ?_
      refine WC.quietn mixed (by kernel_rfl) hs ?_
      refine WQ.p (by rfl) (fun w hs => Yl.move (by rfl)) ?_
      refine WQ.p (by rfl) (fun w hs => Yl.move (by rfl)) ?_
      refine WQ.p (by rfl) (fun w hs => Yl.indexAddr slt60 (by rfl) (by rfl) (Ph.old h_a hs) (by rfl) (hd)) ?_
      refine WQ.p (by rfl) (fun w hs => Yl.loadA agg138 (by rfl) (Sl.Ok.at_ (Ph.old h_a hs) (by assumption)).2 (by rfl)) ?_
      refine WQ.p (by rfl) (fun w hs => Yl.move (by rfl)) ?_
      refine WQ.p (by rfl) (fun w hs => Yl.move (by rfl)) ?_
      refine WQ.p (by rfl) (fun w hs => Yl.indexAddr slt60 (by rfl) (by rfl) (Ph.old h_b hs) (by rfl) (hd2)) ?_
      refine WQ.p (by rfl) (fun w hs => Yl.loadA agg138 (by rfl) (Sl.Ok.at_ (Ph.old h_b hs) (by assumption)).2 (by rfl)) ?_
      refine WQ.callp (by rfl) (fun w => Yc.func (by rfl) fn145) (fun w hs => (c_laws_eqEntry _ _ _)) (fun _ _ hs hb => hs.ext hb) ?_
      refine WQ.p (by rfl) (fun w hs => Yl.not (by rfl)) ?_
      refine WQ.next ?_
      clear hs; intro w hs
      refine WC.condS (by rfl) (fun h3 => ?_) (fun h3 => ?_)
      ·
        replace h3 := not_eq_true h3
        replace h3 := of_decide_eq_false h3
        refine WC.seq ?_
        refine WL.p (by rfl) (Yl.assign (by rfl)) ?_
        refine WL.next ?_
        refine WC.ret ?_
        refine At.blockret ?_
        refine At.thenret ?_
        refine At.thenret ?_
        refine At.blockret ?_
        refine At.thenret ?_
        refine fin1' rfl (by rfl) ?_
        refine RetP.mk hs ?_
        rw [hJ]; simp_all
      ·
        replace h3 := not_eq_false h3
        replace h3 := of_decide_eq_true h3
        refine WC.skip ?_
        refine At.blocknormal ?_
        refine At.then_ ?_
        refine WC.region ?_
        refine WL.p (by rfl) (Yl.move (by rfl)) ?_
        refine WL.p (by rfl) (Yl.add (by rfl) (by rfl) (by omega)) ?_
        refine WL.p (by rfl) (Yl.assign (by rfl)) ?_
        refine WL.nil ?_
        refine At.roundC (k + 1) (hs.only (by repeat (first | exact Sel.nil | (apply Sel.cons; (repeat (first | exact Ext.here | apply Ext.there)))))) ⟨by rfl, by rfl, by rfl, by rfl, by rfl, by rfl, by rfl, trivial⟩ ⟨by rfl, trivial⟩ ?_ ?_
        ·
          omega
        ·
          rw [hJ]; simp_all
    ·
      replace h2 := of_decide_eq_false h2
      rw [drop_out (l := a.l) (by omega), drop_out (l := b.l) (by omega)] at hJ
      refine WC.exit ?_
      refine At.thenexit ?_
      refine At.thenexit ?_
      refine At.blockexit ?_
      refine At.then_ ?_
      refine WC.seq ?_
      refine WL.p (by rfl) (Yl.assign (by rfl)) ?_
      refine WL.next ?_
      refine WC.ret ?_
      refine fin1' rfl (by rfl) ?_
      refine RetP.mk hs ?_
      rw [hJ]; simp_all

theorem c_laws_eqCache (a : PCache) (b : PCache) (w : World) (h_a : Ph.ok w a) (h_b : Ph.ok w b)  : Calls Try.prog 38 [.agg #[Sl.v a.entries], .agg #[Sl.v b.entries]].toArray w (RetP w (Bo (decide (a.lg = b.lg)))) := by
  refine enterN 11 Try.func38 rfl rfl rfl ?_
  have hs := Sat.start w
  refine WC.seq ?_
  refine WL.r (by rfl) (Yr.box hs (by rfl) (by rfl)) ?_
  clear hs; rintro _ w ⟨b1, rfl, hb, hs⟩; clear hb
  refine WL.r (by rfl) (Yr.box hs (by rfl) (by rfl)) ?_
  clear hs; rintro _ w ⟨b2, rfl, hb, hs⟩; clear hb
  refine WL.p (by rfl) (Yl.assign (by rfl)) ?_
  refine WL.next ?_
  refine WC.seq' ?_
  refine WC.seq ?_
  refine WL.p (by rfl) (Yl.fieldAddr fa62_0 (by rfl)) ?_
  refine WL.p (by rfl) (Yl.loadB sca60 (by rfl) hs (by repeat (first | exact List.mem_cons_self | apply List.mem_cons_of_mem)) (by rfl)) ?_
  refine WL.p (by rfl) (Yl.fieldAddr fa62_0 (by rfl)) ?_
  refine WL.p (by rfl) (Yl.loadB sca60 (by rfl) hs (by repeat (first | exact List.mem_cons_self | apply List.mem_cons_of_mem)) (by rfl)) ?_
  refine WL.callp hs (by rfl) (Yc.func (by rfl) fn92) (c_laws_eqEntryS _ _ _ (Ph.old h_a.entries hs) (Ph.old h_b.entries hs)) ?_
  clear hs; intro w hs
  refine WL.p (by rfl) (Yl.not (by rfl)) ?_
  refine WL.next ?_
  refine WC.condS (by rfl) (fun h1 => ?_) (fun h1 => ?_)
  ·
    replace h1 := not_eq_true h1
    replace h1 := of_decide_eq_false h1
    refine WC.seq ?_
    refine WL.p (by rfl) (Yl.assign (by rfl)) ?_
    refine WL.next ?_
    refine WC.ret ?_
    refine At.thenret ?_
    refine fin1' rfl (by rfl) ?_
    refine RetP.mk hs ?_
    simp_all [TCache.ext_iff]
  ·
    replace h1 := not_eq_false h1
    replace h1 := of_decide_eq_true h1
    refine WC.skipn ?_
    refine WC.seq ?_
    refine WL.p (by rfl) (Yl.assign (by rfl)) ?_
    refine WL.next ?_
    refine WC.ret ?_
    refine fin1' rfl (by rfl) ?_
    refine RetP.mk hs ?_
    simp_all [TCache.ext_iff]

theorem c_laws_markText (k : Int) (w : World)  (hk : k ≤ 1000000000) : Calls Try.prog 103 [I k].toArray w (RetP w (S (mkT k))) := by
  refine enterN 20 Try.func103 rfl rfl rfl ?_
  have hs := Sat.start w
  refine WC.seq ?_
  refine WL.p (by rfl) (Yl.assign (by rfl)) ?_
  refine WL.next ?_
  refine WC.seq' ?_
  refine WC.seq ?_
  refine WL.p (by rfl) (Yl.move (by rfl)) ?_
  refine WL.p (by rfl) (Yl.leq (by rfl) (by rfl)) ?_
  refine WL.next ?_
  refine WC.condS (by rfl) (fun h1 => ?_) (fun h1 => ?_)
  ·
    replace h1 := of_decide_eq_true h1
    refine WC.seq ?_
    refine WL.p (by rfl) (Yl.assign (by rfl)) ?_
    refine WL.next ?_
    refine WC.ret ?_
    refine At.thenret ?_
    refine fin1' rfl (by rfl) ?_
    refine RetP.mk hs ?_
    rw [mkT_out (by omega)]
  ·
    replace h1 := of_decide_eq_false h1
    refine WC.skipn ?_
    refine WC.seq ?_
    refine WL.p (by rfl) (Yl.assign (by rfl)) ?_
    refine WL.next ?_
    refine WC.seq' ?_
    refine WC.block ?_
    refine WC.loopC (ι := Nat × Str) (fun ⟨n, o⟩ => n) (fun ⟨n, o⟩ => [(0, I (n : Int)), (3, S o)]) (fun _ => []) (fun ⟨n, o⟩ => digs k.toNat [] = digs n o ∧ o.length + n ≤ 1000000000) [(2, _), (4, _), (5, _)] (k.toNat, []) (hs) ⟨by rfl, by rfl, by rfl, trivial⟩ ⟨by exact congrArg (fun z => some (I z)) (by omega), by rfl, trivial⟩ ?_ ?_
    ·
      exact ⟨rfl, by simp; omega⟩
    clear hs; rintro ⟨n, o⟩ w ⟨hJ1, hJ2⟩ hs
    simp only [List.nil_append] at hs
    refine WC.seq' ?_
    refine WC.seq ?_
    refine WL.p (by rfl) (Yl.move (by rfl)) ?_
    refine WL.p (by rfl) (Yl.gtr (by rfl) (by rfl)) ?_
    refine WL.next ?_
    refine WC.condS (by rfl) (fun h2 => ?_) (fun h2 => ?_)
    ·
      replace h2 := of_decide_eq_true h2
      refine WC.skipn ?_
      refine WC.block ?_
      refine WC.seq ?_
      refine WL.p (by rfl) (Yl.move (by rfl)) ?_
      refine WL.p (by rfl) (Yl.remw (by rfl) (by rfl) (by decide)) ?_
      refine WL.p (by rfl) (Yl.add (by rfl) (by rfl) (by first | (rw [tmod10]; omega) | (simp; omega))) ?_
      refine WL.p (by rfl) (Yl.intByte (c := UInt8.ofNat (48 + n % 10)) (by kernel_rfl) u8t5 (by rfl) (by rw [digit_nat, tmod10]; omega)) ?_
      refine WL.r (by rfl) (Yr.buildSlice hs sll199 (by rfl) (by rfl) (by rfl) (by repeat (first | exact Fill.nil | (apply Fill.cons; rfl; rfl; rfl; repeat (first | (apply SetAt.here; repeat (first | exact Over.nil | apply Over.cons)) | apply SetAt.there)))) (by rfl)) ?_
      clear hs; rintro _ w ⟨b1, rfl, hb, hs⟩; clear hb
      refine WL.p (by rfl) (Yl.bytesStr (l := [UInt8.ofNat (48 + n % 10)]) slu199 u8t5 str9 (by rfl) (hs.box_cells (by repeat (first | exact List.mem_cons_self | apply List.mem_cons_of_mem))) (by rfl) (by rfl)) ?_
      refine WL.p (by rfl) (Yl.move (by rfl)) ?_
      refine WL.p (by rfl) (Yl.cat (by rfl) (by rfl) (by first | (rw [tmod10]; omega) | (simp; omega))) ?_
      refine WL.p (by rfl) (Yl.assign (by rfl)) ?_
      refine WL.next ?_
      refine WC.region ?_
      refine WL.p (by rfl) (Yl.move (by rfl)) ?_
      refine WL.p (by rfl) (Yl.quow (by rfl) (by rfl) (by decide)) ?_
      refine WL.p (by rfl) (Yl.assign (by rfl)) ?_
      refine WL.nil ?_
      refine At.blocknormal ?_
      refine At.roundC (n / 10, UInt8.ofNat (48 + n % 10) :: o) (hs.only (by repeat (first | exact Sel.nil | (apply Sel.cons; (repeat (first | exact Ext.here | apply Ext.there)))))) ⟨by rfl, by rfl, by rfl, trivial⟩ ⟨by exact congrArg (fun z => some (I z)) (quo10 (by omega)), by rfl, trivial⟩ ?_ ?_
      ·
        show n / 10 < n
        omega
      ·
        exact ⟨by rw [hJ1, digs_step (by omega)], by simp; omega⟩
    ·
      replace h2 := of_decide_eq_false h2
      refine WC.exit ?_
      refine At.thenexit ?_
      refine At.thenexit ?_
      refine At.blockexit ?_
      refine At.then_ ?_
      refine WC.seq ?_
      refine WL.p (by rfl) (Yl.move (by rfl)) ?_
      refine WL.p (by rfl) (Yl.cat (by rfl) (by rfl) (by first | (rw [tmod10]; omega) | (simp; omega))) ?_
      refine WL.p (by rfl) (Yl.assign (by rfl)) ?_
      refine WL.next ?_
      refine WC.ret ?_
      refine fin1' rfl (by rfl) ?_
      refine RetP.mk hs ?_
      rw [mkT_in (by omega), hJ1, show n = 0 from by omega, digs_zero]; rfl

theorem c_laws_markEntryS (a : (Sl TEntry)) (k : Int) (w : World) (F : List Nat) (hF : Own.own w a F) (hn : F.Nodup)  (hk0 : 0 ≤ k) (hk : k + ((costL (fun _ => 10) (a.l) : Nat) : Int) ≤ 100000000) : Calls Try.prog 93 [Sl.v a, I k].toArray w (RetM w a F (I (k + ((costL (fun _ => 10) (a.l) : Nat) : Int))) (fun a' => a'.l = mkL mkEntry (fun _ => 10) k (a.l))) := by
  have hw := (Own.ok hF : Sl.Ok w a).lt
  have hk2 := hk
  rw [costL_const] at hk2
  refine enterN 98 Try.func93 rfl rfl rfl ?_
  have hs := Sat.markStart hF hn
  refine WC.seq ?_
  refine WL.p (by rfl) (Yl.assign (by rfl)) ?_
  refine WL.next ?_
  refine WC.seq' ?_
  refine WC.seq ?_
  refine WL.p (by rfl) (Yl.assign (by rfl)) ?_
  refine WL.next ?_
  refine WC.block ?_
  refine WC.loopC (ι := Nat × Sl TEntry × List Nat × List TEntry) (fun ⟨n, s, F1, p⟩ => a.l.length - n) (fun ⟨n, s, F1, p⟩ => [(5, I (n : Int)), (1, I (k + ((10 * n : Nat) : Int))), (0, s.v)]) (fun ⟨n, s, F1, p⟩ => [ow s F1]) (fun ⟨n, s, F1, p⟩ => n ≤ a.l.length ∧ s.v = a.v ∧ p.length = n ∧ s.l = p ++ a.l.drop n ∧ p = mkL mkEntry (fun _ => 10) k (a.l.take n)) [(4, _)] (0, a, F, []) (hs.sel (D := [ow a F]) (by repeat (first | exact Sel.nil | (apply Sel.cons; (repeat (first | exact Ext.here | apply Ext.there)))))) ⟨by rfl, trivial⟩ ⟨by rfl, by exact congrArg (fun z => some (I z)) (by omega), by rfl, trivial⟩ ?_ ?_
  ·
    exact ⟨Nat.zero_le _, rfl, rfl, by simp, by simp [mkL]⟩
  clear hs; rintro ⟨n, s, F1, p⟩ w ⟨hJ1, hJ2, hJ3, hJ4, hJ5⟩ hs
  simp only [List.cons_append, List.nil_append] at hs
  refine WC.seq' ?_
  refine WC.seq ?_
  refine WL.p (by rfl) (Yl.move (by rfl)) ?_
  refine WL.p (by rfl) (Yl.move (by rfl)) ?_
  refine WL.p (by rfl) (Yl.len_sl slu60 (by rfl)) ?_
  refine WL.p (by rfl) (Yl.lss (by rfl) (by rfl)) ?_
  refine WL.next ?_
  refine WC.condS (by rfl) (fun h1 => ?_) (fun h1 => ?_)
  ·
    replace h1 := of_decide_eq_true h1
    have hsl : s.l.length = a.l.length := by rw [hJ4]; simp [hJ3]; omega
    obtain ⟨d, hd0⟩ := exists_get (l := a.l) (k := n) (by omega)
    have hd : s.l[n]? = some d := by rw [hJ4]; exact step_get hJ3 hd0
    have hkl : n < s.l.length := by omega
    refine WC.skipn ?_
    refine WC.seq' ?_
    refine WC.block ?_
    refine WC.seq ?_
    refine WL.p (by rfl) (Yl.move (by rfl)) ?_
    refine WL.p (by rfl) (Yl.move (by rfl)) ?_
    refine WL.p (by rfl) (Yl.move (by rfl)) ?_
    refine WL.callp hs (by rfl) (Yc.func (by rfl) fn103) (c_laws_markText _ _ (by omega)) ?_
    clear hs; intro w hs
    refine WL.p (by rfl) (Yl.indexAddr slt60 (by rfl) (by rfl) (hs.okow (x := s) (F := F1) (by repeat (first | exact List.mem_cons_self | apply List.mem_cons_of_mem))) (by rfl) (hd)) ?_
    refine WL.p (by rfl) (Yl.fieldAddr fa138_0 (by rfl)) ?_
    refine WL.s (Yr.storeP (s := s) (F := F1) (d := d) (u := (⟨(mkT (k + ((10 * n : Nat) : Int))), d.to, d.response, d.until_⟩ : TEntry)) (k := n) (j := 0) hs (by repeat (first | exact Sel.nil | (apply Sel.cons; (repeat (first | exact Ext.here | apply Ext.there))))) (by rfl) (by rfl) (by rfl) hd ⟨_, by rfl, by rfl⟩ (by repeat (first | (apply SetAt.here; repeat (first | exact Over.nil | apply Over.cons)) | apply SetAt.there)) (by exact own_part_flat ⟨(by first | exact (show WfS ((mkT (k + ((10 * n : Nat) : Int)))) from mkT_len (by omega)) | assumption | (refine Ph.old ?_ hs; assumption)), (Sl.Ok.elem (hs.okow (x := s) (F := F1) (by repeat (first | exact List.mem_cons_self | apply List.mem_cons_of_mem))) hd).to, (Sl.Ok.elem (hs.okow (x := s) (F := F1) (by repeat (first | exact List.mem_cons_self | apply List.mem_cons_of_mem))) hd).response, (Sl.Ok.elem (hs.okow (x := s) (F := F1) (by repeat (first | exact List.mem_cons_self | apply List.mem_cons_of_mem))) hd).until_⟩) (by rfl) (by exact szf9)) ?_
    clear hs; rintro _ w ⟨s1, _, rfl, hv1, hl1, hg1, hs⟩
    refine WL.next ?_
    refine WC.seq ?_
    refine WL.p (by rfl) (Yl.move (by rfl)) ?_
    refine WL.p (by rfl) (Yl.add (by rfl) (by rfl) (by omega)) ?_
    refine WL.p (by rfl) (Yl.assign (by rfl)) ?_
    refine WL.next ?_
    refine WC.seq ?_
    refine WL.p (by rfl) (Yl.move (by rfl)) ?_
    refine WL.p (by rfl) (Yl.move (by rfl)) ?_
    refine WL.p (by rfl) (Yl.move (by rfl)) ?_
    refine WL.callp hs (by rfl) (Yc.func (by rfl) fn103) (c_laws_markText _ _ (by omega)) ?_
    clear hs; intro w hs
    refine WL.p (by rfl) (Yl.indexAddrV slt60 (by rfl) hv1 (by rfl) (hs.okow (x := s1) (F := F1) (by repeat (first | exact List.mem_cons_self | apply List.mem_cons_of_mem))) (by rfl) (hg1)) ?_
    refine WL.p (by rfl) (Yl.fieldAddr fa138_1 (by rfl)) ?_
    refine WL.p (by rfl) (Yl.fieldAddr2 fa44_0 (by rfl)) ?_
    refine WL.s (Yr.storeP (s := s1) (F := F1) (d := (⟨(mkT (k + ((10 * n : Nat) : Int))), d.to, d.response, d.until_⟩ : TEntry)) (u := (⟨(mkT (k + ((10 * n : Nat) : Int))), ⟨(mkT ((k + ((10 * n : Nat) : Int)) + 1)), d.to.path⟩, d.response, d.until_⟩ : TEntry)) (k := n) (j := 1) hs (by repeat (first | exact Sel.nil | (apply Sel.cons; (repeat (first | exact Ext.here | apply Ext.there))))) (by rfl) (by rfl) (by rfl) hg1 ⟨_, by rfl, by rfl⟩ (by repeat (first | (apply SetAt.here; repeat (first | exact Over.nil | apply Over.cons)) | apply SetAt.there)) (by exact own_part_flat ⟨(Sl.Ok.elem (hs.okow (x := s1) (F := F1) (by repeat (first | exact List.mem_cons_self | apply List.mem_cons_of_mem))) hg1).top, ⟨(by first | exact (show WfS ((mkT ((k + ((10 * n : Nat) : Int)) + 1))) from mkT_len (by omega)) | assumption | (refine Ph.old ?_ hs; assumption)), (Sl.Ok.elem (hs.okow (x := s1) (F := F1) (by repeat (first | exact List.mem_cons_self | apply List.mem_cons_of_mem))) hg1).to.path⟩, (Sl.Ok.elem (hs.okow (x := s1) (F := F1) (by repeat (first | exact List.mem_cons_self | apply List.mem_cons_of_mem))) hg1).response, (Sl.Ok.elem (hs.okow (x := s1) (F := F1) (by repeat (first | exact List.mem_cons_self | apply List.mem_cons_of_mem))) hg1).until_⟩) (by rfl) (by exact szf9)) ?_
    clear hs; rintro _ w ⟨s2, _, rfl, hv2, hl2, hg2, hs⟩
    refine WL.next ?_
    refine WC.seq ?_
    refine WL.p (by rfl) (Yl.move (by rfl)) ?_
    refine WL.p (by rfl) (Yl.add (by rfl) (by rfl) (by omega)) ?_
    refine WL.p (by rfl) (Yl.assign (by rfl)) ?_
    refine WL.next ?_
    refine WC.seq ?_
    refine WL.p (by rfl) (Yl.move (by rfl)) ?_
    refine WL.p (by rfl) (Yl.move (by rfl)) ?_
    refine WL.p (by rfl) (Yl.move (by rfl)) ?_
    refine WL.callp hs (by rfl) (Yc.func (by rfl) fn103) (c_laws_markText _ _ (by omega)) ?_
    clear hs; intro w hs
    refine WL.p (by rfl) (Yl.indexAddrV slt60 (by rfl) (hv2.trans hv1) (by rfl) (hs.okow (x := s2) (F := F1) (by repeat (first | exact List.mem_cons_self | apply List.mem_cons_of_mem))) (by rfl) (hg2)) ?_
    refine WL.p (by rfl) (Yl.fieldAddr fa138_1 (by rfl)) ?_
    refine WL.p (by rfl) (Yl.fieldAddr2 fa44_1 (by rfl)) ?_
    refine WL.s (Yr.storeP (s := s2) (F := F1) (d := (⟨(mkT (k + ((10 * n : Nat) : Int))), ⟨(mkT ((k + ((10 * n : Nat) : Int)) + 1)), d.to.path⟩, d.response, d.until_⟩ : TEntry)) (u := (⟨(mkT (k + ((10 * n : Nat) : Int))), ⟨(mkT ((k + ((10 * n : Nat) : Int)) + 1)), (mkT (((k + ((10 * n : Nat) : Int)) + 1) + 1))⟩, d.response, d.until_⟩ : TEntry)) (k := n) (j := 2) hs (by repeat (first | exact Sel.nil | (apply Sel.cons; (repeat (first | exact Ext.here | apply Ext.there))))) (by rfl) (by rfl) (by rfl) hg2 ⟨_, by rfl, by rfl⟩ (by repeat (first | (apply SetAt.here; repeat (first | exact Over.nil | apply Over.cons)) | apply SetAt.there)) (by exact own_part_flat ⟨(Sl.Ok.elem (hs.okow (x := s2) (F := F1) (by repeat (first | exact List.mem_cons_self | apply List.mem_cons_of_mem))) hg2).top, ⟨(Sl.Ok.elem (hs.okow (x := s2) (F := F1) (by repeat (first | exact List.mem_cons_self | apply List.mem_cons_of_mem))) hg2).to.host, (by first | exact (show WfS ((mkT (((k + ((10 * n : Nat) : Int)) + 1) + 1))) from mkT_len (by omega)) | assumption | (refine Ph.old ?_ hs; assumption))⟩, (Sl.Ok.elem (hs.okow (x := s2) (F := F1) (by repeat (first | exact List.mem_cons_self | apply List.mem_cons_of_mem))) hg2).response, (Sl.Ok.elem (hs.okow (x := s2) (F := F1) (by repeat (first | exact List.mem_cons_self | apply List.mem_cons_of_mem))) hg2).until_⟩) (by rfl) (by exact szf9)) ?_
    clear hs; rintro _ w ⟨s3, _, rfl, hv3, hl3, hg3, hs⟩
    refine WL.next ?_
    refine WC.seq ?_
    refine WL.p (by rfl) (Yl.move (by rfl)) ?_
    refine WL.p (by rfl) (Yl.add (by rfl) (by rfl) (by omega)) ?_
    refine WL.p (by rfl) (Yl.assign (by rfl)) ?_
    refine WL.next ?_
    refine WC.seq ?_
    refine WL.p (by rfl) (Yl.move (by rfl)) ?_
    refine WL.p (by rfl) (Yl.move (by rfl)) ?_
    refine WL.p (by rfl) (Yl.move (by rfl)) ?_
    refine WL.p (by rfl) (Yl.indexAddrV slt60 (by rfl) (hv3.trans (hv2.trans hv1)) (by rfl) (hs.okow (x := s3) (F := F1) (by repeat (first | exact List.mem_cons_self | apply List.mem_cons_of_mem))) (by rfl) (hg3)) ?_
    refine WL.p (by rfl) (Yl.fieldAddr fa138_2 (by rfl)) ?_
    refine WL.p (by rfl) (Yl.fieldAddr2 fa51_0 (by rfl)) ?_
    refine WL.s (Yr.storeP (s := s3) (F := F1) (d := (⟨(mkT (k + ((10 * n : Nat) : Int))), ⟨(mkT ((k + ((10 * n : Nat) : Int)) + 1)), (mkT (((k + ((10 * n : Nat) : Int)) + 1) + 1))⟩, d.response, d.until_⟩ : TEntry)) (u := (⟨(mkT (k + ((10 * n : Nat) : Int))), ⟨(mkT ((k + ((10 * n : Nat) : Int)) + 1)), (mkT (((k + ((10 * n : Nat) : Int)) + 1) + 1))⟩, ⟨((((k + ((10 * n : Nat) : Int)) + 1) + 1) + 1), d.response.kind, d.response.body, d.response.age, d.response.shares, d.response.policy⟩, d.until_⟩ : TEntry)) (k := n) (j := 3) hs (by repeat (first | exact Sel.nil | (apply Sel.cons; (repeat (first | exact Ext.here | apply Ext.there))))) (by rfl) (by rfl) (by rfl) hg3 ⟨_, by rfl, by rfl⟩ (by repeat (first | (apply SetAt.here; repeat (first | exact Over.nil | apply Over.cons)) | apply SetAt.there)) (by exact own_part_flat ⟨(Sl.Ok.elem (hs.okow (x := s3) (F := F1) (by repeat (first | exact List.mem_cons_self | apply List.mem_cons_of_mem))) hg3).top, (Sl.Ok.elem (hs.okow (x := s3) (F := F1) (by repeat (first | exact List.mem_cons_self | apply List.mem_cons_of_mem))) hg3).to, ⟨(by exact (show WfI (((((k + ((10 * n : Nat) : Int)) + 1) + 1) + 1)) from ⟨by omega, by omega⟩)), (Sl.Ok.elem (hs.okow (x := s3) (F := F1) (by repeat (first | exact List.mem_cons_self | apply List.mem_cons_of_mem))) hg3).response.kind, (Sl.Ok.elem (hs.okow (x := s3) (F := F1) (by repeat (first | exact List.mem_cons_self | apply List.mem_cons_of_mem))) hg3).response.body, (Sl.Ok.elem (hs.okow (x := s3) (F := F1) (by repeat (first | exact List.mem_cons_self | apply List.mem_cons_of_mem))) hg3).response.age, (Sl.Ok.elem (hs.okow (x := s3) (F := F1) (by repeat (first | exact List.mem_cons_self | apply List.mem_cons_of_mem))) hg3).response.shares, (Sl.Ok.elem (hs.okow (x := s3) (F := F1) (by repeat (first | exact List.mem_cons_self | apply List.mem_cons_of_mem))) hg3).response.policy⟩, (Sl.Ok.elem (hs.okow (x := s3) (F := F1) (by repeat (first | exact List.mem_cons_self | apply List.mem_cons_of_mem))) hg3).until_⟩) (by rfl) (by exact szf3)) ?_
    clear hs; rintro _ w ⟨s4, _, rfl, hv4, hl4, hg4, hs⟩
    refine WL.next ?_
    refine WC.seq ?_
    refine WL.p (by rfl) (Yl.move (by rfl)) ?_
    refine WL.p (by rfl) (Yl.add (by rfl) (by rfl) (by omega)) ?_
    refine WL.p (by rfl) (Yl.assign (by rfl)) ?_
    refine WL.next ?_
    refine WC.seq ?_
    refine WL.p (by rfl) (Yl.move (by rfl)) ?_
    refine WL.p (by rfl) (Yl.move (by rfl)) ?_
    refine WL.p (by rfl) (Yl.move (by rfl)) ?_
    refine WL.p (by rfl) (Yl.indexAddrV slt60 (by rfl) (hv4.trans (hv3.trans (hv2.trans hv1))) (by rfl) (hs.okow (x := s4) (F := F1) (by repeat (first | exact List.mem_cons_self | apply List.mem_cons_of_mem))) (by rfl) (hg4)) ?_
    refine WL.p (by rfl) (Yl.fieldAddr fa138_2 (by rfl)) ?_
    refine WL.p (by rfl) (Yl.fieldAddr2 fa51_1 (by rfl)) ?_
    refine WL.s (Yr.storeP (s := s4) (F := F1) (d := (⟨(mkT (k + ((10 * n : Nat) : Int))), ⟨(mkT ((k + ((10 * n : Nat) : Int)) + 1)), (mkT (((k + ((10 * n : Nat) : Int)) + 1) + 1))⟩, ⟨((((k + ((10 * n : Nat) : Int)) + 1) + 1) + 1), d.response.kind, d.response.body, d.response.age, d.response.shares, d.response.policy⟩, d.until_⟩ : TEntry)) (u := (⟨(mkT (k + ((10 * n : Nat) : Int))), ⟨(mkT ((k + ((10 * n : Nat) : Int)) + 1)), (mkT (((k + ((10 * n : Nat) : Int)) + 1) + 1))⟩, ⟨((((k + ((10 * n : Nat) : Int)) + 1) + 1) + 1), (((((k + ((10 * n : Nat) : Int)) + 1) + 1) + 1) + 1), d.response.body, d.response.age, d.response.shares, d.response.policy⟩, d.until_⟩ : TEntry)) (k := n) (j := 4) hs (by repeat (first | exact Sel.nil | (apply Sel.cons; (repeat (first | exact Ext.here | apply Ext.there))))) (by rfl) (by rfl) (by rfl) hg4 ⟨_, by rfl, by rfl⟩ (by repeat (first | (apply SetAt.here; repeat (first | exact Over.nil | apply Over.cons)) | apply SetAt.there)) (by exact own_part_flat ⟨(Sl.Ok.elem (hs.okow (x := s4) (F := F1) (by repeat (first | exact List.mem_cons_self | apply List.mem_cons_of_mem))) hg4).top, (Sl.Ok.elem (hs.okow (x := s4) (F := F1) (by repeat (first | exact List.mem_cons_self | apply List.mem_cons_of_mem))) hg4).to, ⟨(Sl.Ok.elem (hs.okow (x := s4) (F := F1) (by repeat (first | exact List.mem_cons_self | apply List.mem_cons_of_mem))) hg4).response.status, (by exact (show WfI ((((((k + ((10 * n : Nat) : Int)) + 1) + 1) + 1) + 1)) from ⟨by omega, by omega⟩)), (Sl.Ok.elem (hs.okow (x := s4) (F := F1) (by repeat (first | exact List.mem_cons_self | apply List.mem_cons_of_mem))) hg4).response.body, (Sl.Ok.elem (hs.okow (x := s4) (F := F1) (by repeat (first | exact List.mem_cons_self | apply List.mem_cons_of_mem))) hg4).response.age, (Sl.Ok.elem (hs.okow (x := s4) (F := F1) (by repeat (first | exact List.mem_cons_self | apply List.mem_cons_of_mem))) hg4).response.shares, (Sl.Ok.elem (hs.okow (x := s4) (F := F1) (by repeat (first | exact List.mem_cons_self | apply List.mem_cons_of_mem))) hg4).response.policy⟩, (Sl.Ok.elem (hs.okow (x := s4) (F := F1) (by repeat (first | exact List.mem_cons_self | apply List.mem_cons_of_mem))) hg4).until_⟩) (by rfl) (by exact szf3)) ?_
    clear hs; rintro _ w ⟨s5, _, rfl, hv5, hl5, hg5, hs⟩
    refine WL.next ?_
    refine WC.seq ?_
    refine WL.p (by rfl) (Yl.move (by rfl)) ?_
    refine WL.p (by rfl) (Yl.add (by rfl) (by rfl) (by omega)) ?_
    refine WL.p (by rfl) (Yl.assign (by rfl)) ?_
    refine WL.next ?_
    refine WC.seq ?_
    refine WL.p (by rfl) (Yl.move (by rfl)) ?_
    refine WL.p (by rfl) (Yl.move (by rfl)) ?_
    refine WL.p (by rfl) (Yl.move (by rfl)) ?_
    refine WL.callp hs (by rfl) (Yc.func (by rfl) fn103) (c_laws_markText _ _ (by omega)) ?_
    clear hs; intro w hs
    refine WL.p (by rfl) (Yl.indexAddrV slt60 (by rfl) (hv5.trans (hv4.trans (hv3.trans (hv2.trans hv1)))) (by rfl) (hs.okow (x := s5) (F := F1) (by repeat (first | exact List.mem_cons_self | apply List.mem_cons_of_mem))) (by rfl) (hg5)) ?_
    refine WL.p (by rfl) (Yl.fieldAddr fa138_2 (by rfl)) ?_
    refine WL.p (by rfl) (Yl.fieldAddr2 fa51_2 (by rfl)) ?_
    refine WL.s (Yr.storeP (s := s5) (F := F1) (d := (⟨(mkT (k + ((10 * n : Nat) : Int))), ⟨(mkT ((k + ((10 * n : Nat) : Int)) + 1)), (mkT (((k + ((10 * n : Nat) : Int)) + 1) + 1))⟩, ⟨((((k + ((10 * n : Nat) : Int)) + 1) + 1) + 1), (((((k + ((10 * n : Nat) : Int)) + 1) + 1) + 1) + 1), d.response.body, d.response.age, d.response.shares, d.response.policy⟩, d.until_⟩ : TEntry)) (u := (⟨(mkT (k + ((10 * n : Nat) : Int))), ⟨(mkT ((k + ((10 * n : Nat) : Int)) + 1)), (mkT (((k + ((10 * n : Nat) : Int)) + 1) + 1))⟩, ⟨((((k + ((10 * n : Nat) : Int)) + 1) + 1) + 1), (((((k + ((10 * n : Nat) : Int)) + 1) + 1) + 1) + 1), (mkT ((((((k + ((10 * n : Nat) : Int)) + 1) + 1) + 1) + 1) + 1)), d.response.age, d.response.shares, d.response.policy⟩, d.until_⟩ : TEntry)) (k := n) (j := 5) hs (by repeat (first | exact Sel.nil | (apply Sel.cons; (repeat (first | exact Ext.here | apply Ext.there))))) (by rfl) (by rfl) (by rfl) hg5 ⟨_, by rfl, by rfl⟩ (by repeat (first | (apply SetAt.here; repeat (first | exact Over.nil | apply Over.cons)) | apply SetAt.there)) (by exact own_part_flat ⟨(Sl.Ok.elem (hs.okow (x := s5) (F := F1) (by repeat (first | exact List.mem_cons_self | apply List.mem_cons_of_mem))) hg5).top, (Sl.Ok.elem (hs.okow (x := s5) (F := F1) (by repeat (first | exact List.mem_cons_self | apply List.mem_cons_of_mem))) hg5).to, ⟨(Sl.Ok.elem (hs.okow (x := s5) (F := F1) (by repeat (first | exact List.mem_cons_self | apply List.mem_cons_of_mem))) hg5).response.status, (Sl.Ok.elem (hs.okow (x := s5) (F := F1) (by repeat (first | exact List.mem_cons_self | apply List.mem_cons_of_mem))) hg5).response.kind, (by first | exact (show WfS ((mkT ((((((k + ((10 * n : Nat) : Int)) + 1) + 1) + 1) + 1) + 1))) from mkT_len (by omega)) | assumption | (refine Ph.old ?_ hs; assumption)), (Sl.Ok.elem (hs.okow (x := s5) (F := F1) (by repeat (first | exact List.mem_cons_self | apply List.mem_cons_of_mem))) hg5).response.age, (Sl.Ok.elem (hs.okow (x := s5) (F := F1) (by repeat (first | exact List.mem_cons_self | apply List.mem_cons_of_mem))) hg5).response.shares, (Sl.Ok.elem (hs.okow (x := s5) (F := F1) (by repeat (first | exact List.mem_cons_self | apply List.mem_cons_of_mem))) hg5).response.policy⟩, (Sl.Ok.elem (hs.okow (x := s5) (F := F1) (by repeat (first | exact List.mem_cons_self | apply List.mem_cons_of_mem))) hg5).until_⟩) (by rfl) (by exact szf9)) ?_
    clear hs; rintro _ w ⟨s6, _, rfl, hv6, hl6, hg6, hs⟩
    refine WL.next ?_
    refine WC.seq ?_
    refine WL.p (by rfl) (Yl.move (by rfl)) ?_
    refine WL.p (by rfl) (Yl.add (by rfl) (by rfl) (by omega)) ?_
    refine WL.p (by rfl) (Yl.assign (by rfl)) ?_
    refine WL.next ?_
    refine WC.seq ?_
    refine WL.p (by rfl) (Yl.move (by rfl)) ?_
    refine WL.p (by rfl) (Yl.move (by rfl)) ?_
    refine WL.p (by rfl) (Yl.move (by rfl)) ?_
    refine WL.p (by rfl) (Yl.indexAddrV slt60 (by rfl) (hv6.trans (hv5.trans (hv4.trans (hv3.trans (hv2.trans hv1))))) (by rfl) (hs.okow (x := s6) (F := F1) (by repeat (first | exact List.mem_cons_self | apply List.mem_cons_of_mem))) (by rfl) (hg6)) ?_
    refine WL.p (by rfl) (Yl.fieldAddr fa138_2 (by rfl)) ?_
    refine WL.p (by rfl) (Yl.fieldAddr2 fa51_3 (by rfl)) ?_
    refine WL.s (Yr.storeP (s := s6) (F := F1) (d := (⟨(mkT (k + ((10 * n : Nat) : Int))), ⟨(mkT ((k + ((10 * n : Nat) : Int)) + 1)), (mkT (((k + ((10 * n : Nat) : Int)) + 1) + 1))⟩, ⟨((((k + ((10 * n : Nat) : Int)) + 1) + 1) + 1), (((((k + ((10 * n : Nat) : Int)) + 1) + 1) + 1) + 1), (mkT ((((((k + ((10 * n : Nat) : Int)) + 1) + 1) + 1) + 1) + 1)), d.response.age, d.response.shares, d.response.policy⟩, d.until_⟩ : TEntry)) (u := (⟨(mkT (k + ((10 * n : Nat) : Int))), ⟨(mkT ((k + ((10 * n : Nat) : Int)) + 1)), (mkT (((k + ((10 * n : Nat) : Int)) + 1) + 1))⟩, ⟨((((k + ((10 * n : Nat) : Int)) + 1) + 1) + 1), (((((k + ((10 * n : Nat) : Int)) + 1) + 1) + 1) + 1), (mkT ((((((k + ((10 * n : Nat) : Int)) + 1) + 1) + 1) + 1) + 1)), (((((((k + ((10 * n : Nat) : Int)) + 1) + 1) + 1) + 1) + 1) + 1), d.response.shares, d.response.policy⟩, d.until_⟩ : TEntry)) (k := n) (j := 6) hs (by repeat (first | exact Sel.nil | (apply Sel.cons; (repeat (first | exact Ext.here | apply Ext.there))))) (by rfl) (by rfl) (by rfl) hg6 ⟨_, by rfl, by rfl⟩ (by repeat (first | (apply SetAt.here; repeat (first | exact Over.nil | apply Over.cons)) | apply SetAt.there)) (by exact own_part_flat ⟨(Sl.Ok.elem (hs.okow (x := s6) (F := F1) (by repeat (first | exact List.mem_cons_self | apply List.mem_cons_of_mem))) hg6).top, (Sl.Ok.elem (hs.okow (x := s6) (F := F1) (by repeat (first | exact List.mem_cons_self | apply List.mem_cons_of_mem))) hg6).to, ⟨(Sl.Ok.elem (hs.okow (x := s6) (F := F1) (by repeat (first | exact List.mem_cons_self | apply List.mem_cons_of_mem))) hg6).response.status, (Sl.Ok.elem (hs.okow (x := s6) (F := F1) (by repeat (first | exact List.mem_cons_self | apply List.mem_cons_of_mem))) hg6).response.kind, (Sl.Ok.elem (hs.okow (x := s6) (F := F1) (by repeat (first | exact List.mem_cons_self | apply List.mem_cons_of_mem))) hg6).response.body, (by exact (show WfI ((((((((k + ((10 * n : Nat) : Int)) + 1) + 1) + 1) + 1) + 1) + 1)) from ⟨by omega, by omega⟩)), (Sl.Ok.elem (hs.okow (x := s6) (F := F1) (by repeat (first | exact List.mem_cons_self | apply List.mem_cons_of_mem))) hg6).response.shares, (Sl.Ok.elem (hs.okow (x := s6) (F := F1) (by repeat (first | exact List.mem_cons_self | apply List.mem_cons_of_mem))) hg6).response.policy⟩, (Sl.Ok.elem (hs.okow (x := s6) (F := F1) (by repeat (first | exact List.mem_cons_self | apply List.mem_cons_of_mem))) hg6).until_⟩) (by rfl) (by exact szf3)) ?_
    clear hs; rintro _ w ⟨s7, _, rfl, hv7, hl7, hg7, hs⟩
    refine WL.next ?_
    refine WC.seq ?_
    refine WL.p (by rfl) (Yl.move (by rfl)) ?_
    refine WL.p (by rfl) (Yl.add (by rfl) (by rfl) (by omega)) ?_
    refine WL.p (by rfl) (Yl.assign (by rfl)) ?_
    refine WL.next ?_
    refine WC.seq ?_
    refine WL.p (by rfl) (Yl.move (by rfl)) ?_
    refine WL.p (by rfl) (Yl.move (by rfl)) ?_
    refine WL.p (by rfl) (Yl.move (by rfl)) ?_
    refine WL.p (by rfl) (Yl.remw (by rfl) (by rfl) (by decide)) ?_
    refine WL.p (by rfl) (Yl.eqi (by rfl) (by rfl)) ?_
    refine WL.p (by rfl) (Yl.indexAddrV slt60 (by rfl) (hv7.trans (hv6.trans (hv5.trans (hv4.trans (hv3.trans (hv2.trans hv1)))))) (by rfl) (hs.okow (x := s7) (F := F1) (by repeat (first | exact List.mem_cons_self | apply List.mem_cons_of_mem))) (by rfl) (hg7)) ?_
    refine WL.p (by rfl) (Yl.fieldAddr fa138_2 (by rfl)) ?_
    refine WL.p (by rfl) (Yl.fieldAddr2 fa51_4 (by rfl)) ?_
    refine WL.s (Yr.storeP (s := s7) (F := F1) (d := (⟨(mkT (k + ((10 * n : Nat) : Int))), ⟨(mkT ((k + ((10 * n : Nat) : Int)) + 1)), (mkT (((k + ((10 * n : Nat) : Int)) + 1) + 1))⟩, ⟨((((k + ((10 * n : Nat) : Int)) + 1) + 1) + 1), (((((k + ((10 * n : Nat) : Int)) + 1) + 1) + 1) + 1), (mkT ((((((k + ((10 * n : Nat) : Int)) + 1) + 1) + 1) + 1) + 1)), (((((((k + ((10 * n : Nat) : Int)) + 1) + 1) + 1) + 1) + 1) + 1), d.response.shares, d.response.policy⟩, d.until_⟩ : TEntry)) (u := (⟨(mkT (k + ((10 * n : Nat) : Int))), ⟨(mkT ((k + ((10 * n : Nat) : Int)) + 1)), (mkT (((k + ((10 * n : Nat) : Int)) + 1) + 1))⟩, ⟨((((k + ((10 * n : Nat) : Int)) + 1) + 1) + 1), (((((k + ((10 * n : Nat) : Int)) + 1) + 1) + 1) + 1), (mkT ((((((k + ((10 * n : Nat) : Int)) + 1) + 1) + 1) + 1) + 1)), (((((((k + ((10 * n : Nat) : Int)) + 1) + 1) + 1) + 1) + 1) + 1), (decide ((Int.tmod ((((((((k + ((10 * n : Nat) : Int)) + 1) + 1) + 1) + 1) + 1) + 1) + 1) 3) = 0)), d.response.policy⟩, d.until_⟩ : TEntry)) (k := n) (j := 7) hs (by repeat (first | exact Sel.nil | (apply Sel.cons; (repeat (first | exact Ext.here | apply Ext.there))))) (by rfl) (by rfl) (by rfl) hg7 ⟨_, by rfl, by rfl⟩ (by repeat (first | (apply SetAt.here; repeat (first | exact Over.nil | apply Over.cons)) | apply SetAt.there)) (by exact own_part_flat ⟨(Sl.Ok.elem (hs.okow (x := s7) (F := F1) (by repeat (first | exact List.mem_cons_self | apply List.mem_cons_of_mem))) hg7).top, (Sl.Ok.elem (hs.okow (x := s7) (F := F1) (by repeat (first | exact List.mem_cons_self | apply List.mem_cons_of_mem))) hg7).to, ⟨(Sl.Ok.elem (hs.okow (x := s7) (F := F1) (by repeat (first | exact List.mem_cons_self | apply List.mem_cons_of_mem))) hg7).response.status, (Sl.Ok.elem (hs.okow (x := s7) (F := F1) (by repeat (first | exact List.mem_cons_self | apply List.mem_cons_of_mem))) hg7).response.kind, (Sl.Ok.elem (hs.okow (x := s7) (F := F1) (by repeat (first | exact List.mem_cons_self | apply List.mem_cons_of_mem))) hg7).response.body, (Sl.Ok.elem (hs.okow (x := s7) (F := F1) (by repeat (first | exact List.mem_cons_self | apply List.mem_cons_of_mem))) hg7).response.age, (by trivial), (Sl.Ok.elem (hs.okow (x := s7) (F := F1) (by repeat (first | exact List.mem_cons_self | apply List.mem_cons_of_mem))) hg7).response.policy⟩, (Sl.Ok.elem (hs.okow (x := s7) (F := F1) (by repeat (first | exact List.mem_cons_self | apply List.mem_cons_of_mem))) hg7).until_⟩) (by rfl) (by exact szf4)) ?_
    clear hs; rintro _ w ⟨s8, _, rfl, hv8, hl8, hg8, hs⟩
    refine WL.next ?_
    refine WC.seq ?_
    refine WL.p (by rfl) (Yl.move (by rfl)) ?_
    refine WL.p (by rfl) (Yl.add (by rfl) (by rfl) (by omega)) ?_
    refine WL.p (by rfl) (Yl.assign (by rfl)) ?_
    refine WL.next ?_
    refine WC.seq ?_
    refine WL.p (by rfl) (Yl.move (by rfl)) ?_
    refine WL.p (by rfl) (Yl.move (by rfl)) ?_
    refine WL.p (by rfl) (Yl.move (by rfl)) ?_
    refine WL.callp hs (by rfl) (Yc.func (by rfl) fn103) (c_laws_markText _ _ (by omega)) ?_
    clear hs; intro w hs
    refine WL.p (by rfl) (Yl.indexAddrV slt60 (by rfl) (hv8.trans (hv7.trans (hv6.trans (hv5.trans (hv4.trans (hv3.trans (hv2.trans hv1))))))) (by rfl) (hs.okow (x := s8) (F := F1) (by repeat (first | exact List.mem_cons_self | apply List.mem_cons_of_mem))) (by rfl) (hg8)) ?_
    refine WL.p (by rfl) (Yl.fieldAddr fa138_2 (by rfl)) ?_
    refine WL.p (by rfl) (Yl.fieldAddr2 fa51_5 (by rfl)) ?_
    refine WL.s (Yr.storeP (s := s8) (F := F1) (d := (⟨(mkT (k + ((10 * n : Nat) : Int))), ⟨(mkT ((k + ((10 * n : Nat) : Int)) + 1)), (mkT (((k + ((10 * n : Nat) : Int)) + 1) + 1))⟩, ⟨((((k + ((10 * n : Nat) : Int)) + 1) + 1) + 1), (((((k + ((10 * n : Nat) : Int)) + 1) + 1) + 1) + 1), (mkT ((((((k + ((10 * n : Nat) : Int)) + 1) + 1) + 1) + 1) + 1)), (((((((k + ((10 * n : Nat) : Int)) + 1) + 1) + 1) + 1) + 1) + 1), (decide ((Int.tmod ((((((((k + ((10 * n : Nat) : Int)) + 1) + 1) + 1) + 1) + 1) + 1) + 1) 3) = 0)), d.response.policy⟩, d.until_⟩ : TEntry)) (u := (⟨(mkT (k + ((10 * n : Nat) : Int))), ⟨(mkT ((k + ((10 * n : Nat) : Int)) + 1)), (mkT (((k + ((10 * n : Nat) : Int)) + 1) + 1))⟩, ⟨((((k + ((10 * n : Nat) : Int)) + 1) + 1) + 1), (((((k + ((10 * n : Nat) : Int)) + 1) + 1) + 1) + 1), (mkT ((((((k + ((10 * n : Nat) : Int)) + 1) + 1) + 1) + 1) + 1)), (((((((k + ((10 * n : Nat) : Int)) + 1) + 1) + 1) + 1) + 1) + 1), (decide ((Int.tmod ((((((((k + ((10 * n : Nat) : Int)) + 1) + 1) + 1) + 1) + 1) + 1) + 1) 3) = 0)), (mkT (((((((((k + ((10 * n : Nat) : Int)) + 1) + 1) + 1) + 1) + 1) + 1) + 1) + 1))⟩, d.until_⟩ : TEntry)) (k := n) (j := 8) hs (by repeat (first | exact Sel.nil | (apply Sel.cons; (repeat (first | exact Ext.here | apply Ext.there))))) (by rfl) (by rfl) (by rfl) hg8 ⟨_, by rfl, by rfl⟩ (by repeat (first | (apply SetAt.here; repeat (first | exact Over.nil | apply Over.cons)) | apply SetAt.there)) (by exact own_part_flat ⟨(Sl.Ok.elem (hs.okow (x := s8) (F := F1) (by repeat (first | exact List.mem_cons_self | apply List.mem_cons_of_mem))) hg8).top, (Sl.Ok.elem (hs.okow (x := s8) (F := F1) (by repeat (first | exact List.mem_cons_self | apply List.mem_cons_of_mem))) hg8).to, ⟨(Sl.Ok.elem (hs.okow (x := s8) (F := F1) (by repeat (first | exact List.mem_cons_self | apply List.mem_cons_of_mem))) hg8).response.status, (Sl.Ok.elem (hs.okow (x := s8) (F := F1) (by repeat (first | exact List.mem_cons_self | apply List.mem_cons_of_mem))) hg8).response.kind, (Sl.Ok.elem (hs.okow (x := s8) (F := F1) (by repeat (first | exact List.mem_cons_self | apply List.mem_cons_of_mem))) hg8).response.body, (Sl.Ok.elem (hs.okow (x := s8) (F := F1) (by repeat (first | exact List.mem_cons_self | apply List.mem_cons_of_mem))) hg8).response.age, (Sl.Ok.elem (hs.okow (x := s8) (F := F1) (by repeat (first | exact List.mem_cons_self | apply List.mem_cons_of_mem))) hg8).response.shares, (by first | exact (show WfS ((mkT (((((((((k + ((10 * n : Nat) : Int)) + 1) + 1) + 1) + 1) + 1) + 1) + 1) + 1))) from mkT_len (by omega)) | assumption | (refine Ph.old ?_ hs; assumption))⟩, (Sl.Ok.elem (hs.okow (x := s8) (F := F1) (by repeat (first | exact List.mem_cons_self | apply List.mem_cons_of_mem))) hg8).until_⟩) (by rfl) (by exact szf9)) ?_
    clear hs; rintro _ w ⟨s9, _, rfl, hv9, hl9, hg9, hs⟩
    refine WL.next ?_
    refine WC.seq ?_
    refine WL.p (by rfl) (Yl.move (by rfl)) ?_
    refine WL.p (by rfl) (Yl.add (by rfl) (by rfl) (by omega)) ?_
    refine WL.p (by rfl) (Yl.assign (by rfl)) ?_
    refine WL.next ?_
    refine WC.seq ?_
    refine WL.p (by rfl) (Yl.move (by rfl)) ?_
    refine WL.p (by rfl) (Yl.move (by rfl)) ?_
    refine WL.p (by rfl) (Yl.move (by rfl)) ?_
    refine WL.p (by rfl) (Yl.indexAddrV slt60 (by rfl) (hv9.trans (hv8.trans (hv7.trans (hv6.trans (hv5.trans (hv4.trans (hv3.trans (hv2.trans hv1)))))))) (by rfl) (hs.okow (x := s9) (F := F1) (by repeat (first | exact List.mem_cons_self | apply List.mem_cons_of_mem))) (by rfl) (hg9)) ?_
    refine WL.p (by rfl) (Yl.fieldAddr fa138_3 (by rfl)) ?_
    refine WL.s (Yr.storeP (s := s9) (F := F1) (d := (⟨(mkT (k + ((10 * n : Nat) : Int))), ⟨(mkT ((k + ((10 * n : Nat) : Int)) + 1)), (mkT (((k + ((10 * n : Nat) : Int)) + 1) + 1))⟩, ⟨((((k + ((10 * n : Nat) : Int)) + 1) + 1) + 1), (((((k + ((10 * n : Nat) : Int)) + 1) + 1) + 1) + 1), (mkT ((((((k + ((10 * n : Nat) : Int)) + 1) + 1) + 1) + 1) + 1)), (((((((k + ((10 * n : Nat) : Int)) + 1) + 1) + 1) + 1) + 1) + 1), (decide ((Int.tmod ((((((((k + ((10 * n : Nat) : Int)) + 1) + 1) + 1) + 1) + 1) + 1) + 1) 3) = 0)), (mkT (((((((((k + ((10 * n : Nat) : Int)) + 1) + 1) + 1) + 1) + 1) + 1) + 1) + 1))⟩, d.until_⟩ : TEntry)) (u := (⟨(mkT (k + ((10 * n : Nat) : Int))), ⟨(mkT ((k + ((10 * n : Nat) : Int)) + 1)), (mkT (((k + ((10 * n : Nat) : Int)) + 1) + 1))⟩, ⟨((((k + ((10 * n : Nat) : Int)) + 1) + 1) + 1), (((((k + ((10 * n : Nat) : Int)) + 1) + 1) + 1) + 1), (mkT ((((((k + ((10 * n : Nat) : Int)) + 1) + 1) + 1) + 1) + 1)), (((((((k + ((10 * n : Nat) : Int)) + 1) + 1) + 1) + 1) + 1) + 1), (decide ((Int.tmod ((((((((k + ((10 * n : Nat) : Int)) + 1) + 1) + 1) + 1) + 1) + 1) + 1) 3) = 0)), (mkT (((((((((k + ((10 * n : Nat) : Int)) + 1) + 1) + 1) + 1) + 1) + 1) + 1) + 1))⟩, ((((((((((k + ((10 * n : Nat) : Int)) + 1) + 1) + 1) + 1) + 1) + 1) + 1) + 1) + 1)⟩ : TEntry)) (k := n) (j := 9) hs (by repeat (first | exact Sel.nil | (apply Sel.cons; (repeat (first | exact Ext.here | apply Ext.there))))) (by rfl) (by rfl) (by rfl) hg9 ⟨_, by rfl, by rfl⟩ (by repeat (first | (apply SetAt.here; repeat (first | exact Over.nil | apply Over.cons)) | apply SetAt.there)) (by exact own_part_flat ⟨(Sl.Ok.elem (hs.okow (x := s9) (F := F1) (by repeat (first | exact List.mem_cons_self | apply List.mem_cons_of_mem))) hg9).top, (Sl.Ok.elem (hs.okow (x := s9) (F := F1) (by repeat (first | exact List.mem_cons_self | apply List.mem_cons_of_mem))) hg9).to, (Sl.Ok.elem (hs.okow (x := s9) (F := F1) (by repeat (first | exact List.mem_cons_self | apply List.mem_cons_of_mem))) hg9).response, (by exact (show WfI (((((((((((k + ((10 * n : Nat) : Int)) + 1) + 1) + 1) + 1) + 1) + 1) + 1) + 1) + 1)) from ⟨by omega, by omega⟩))⟩) (by rfl) (by exact szf3)) ?_
    clear hs; rintro _ w ⟨s10, _, rfl, hv10, hl10, hg10, hs⟩
    refine WL.next ?_
    refine WC.region ?_
    refine WL.p (by rfl) (Yl.move (by rfl)) ?_
    refine WL.p (by rfl) (Yl.add (by rfl) (by rfl) (by omega)) ?_
    refine WL.p (by rfl) (Yl.assign (by rfl)) ?_
    refine WL.nil ?_
    refine At.blocknormal ?_
    refine At.then_ ?_
    refine WC.region ?_
    refine WL.p (by rfl) (Yl.move (by rfl)) ?_
    refine WL.p (by rfl) (Yl.add (by rfl) (by rfl) (by omega)) ?_
    refine WL.p (by rfl) (Yl.assign (by rfl)) ?_
    refine WL.nil ?_
    refine At.roundC (n + 1, s10, F1, p ++ [(⟨(mkT (k + ((10 * n : Nat) : Int))), ⟨(mkT ((k + ((10 * n : Nat) : Int)) + 1)), (mkT (((k + ((10 * n : Nat) : Int)) + 1) + 1))⟩, ⟨((((k + ((10 * n : Nat) : Int)) + 1) + 1) + 1), (((((k + ((10 * n : Nat) : Int)) + 1) + 1) + 1) + 1), (mkT ((((((k + ((10 * n : Nat) : Int)) + 1) + 1) + 1) + 1) + 1)), (((((((k + ((10 * n : Nat) : Int)) + 1) + 1) + 1) + 1) + 1) + 1), (decide ((Int.tmod ((((((((k + ((10 * n : Nat) : Int)) + 1) + 1) + 1) + 1) + 1) + 1) + 1) 3) = 0)), (mkT (((((((((k + ((10 * n : Nat) : Int)) + 1) + 1) + 1) + 1) + 1) + 1) + 1) + 1))⟩, ((((((((((k + ((10 * n : Nat) : Int)) + 1) + 1) + 1) + 1) + 1) + 1) + 1) + 1) + 1)⟩ : TEntry)]) (hs.only (by repeat (first | exact Sel.nil | (apply Sel.cons; (repeat (first | exact Ext.here | apply Ext.there)))))) ⟨by rfl, trivial⟩ ⟨by rfl, by exact congrArg (fun z => some (I z)) (by omega), by exact congrArg some (hv10.trans (hv9.trans (hv8.trans (hv7.trans (hv6.trans (hv5.trans (hv4.trans (hv3.trans (hv2.trans hv1))))))))).symm, trivial⟩ ?_ ?_
    ·
      show a.l.length - (n + 1) < a.l.length - n
      omega
    ·
      refine ⟨by omega, (hv10.trans (hv9.trans (hv8.trans (hv7.trans (hv6.trans (hv5.trans (hv4.trans (hv3.trans (hv2.trans hv1))))))))).trans hJ2, by simp [hJ3], ?_, ?_⟩
      · rw [hl10, hl9, hl8, hl7, hl6, hl5, hl4, hl3, hl2, hl1]; simp only [List.set_set]; rw [hJ4]; exact step_set hJ3 (by omega)
      · rw [mkL_step hd0, hJ5, costL_take_const (by omega)]; rfl
  ·
    replace h1 := of_decide_eq_false h1
    refine WC.exit ?_
    refine At.thenexit ?_
    refine At.thenexit ?_
    refine At.blockexit ?_
    refine At.then_ ?_
    refine WC.seq ?_
    refine WL.p (by rfl) (Yl.move (by rfl)) ?_
    refine WL.p (by rfl) (Yl.assign (by rfl)) ?_
    refine WL.next ?_
    refine WC.ret ?_
    refine fin1' rfl (by rfl) ?_
    have hsl : s.l.length = a.l.length := by rw [hJ4]; simp [hJ3]; omega
    have hn2 : n = a.l.length := by omega
    subst hn2
    rw [costL_const]
    refine RetM.cast (congrArg I (by omega)) ?_
    exact RetM.of hs (by repeat (first | exact List.mem_cons_self | apply List.mem_cons_of_mem)) (Sl.v_enc hJ2) (by rw [hJ4, List.drop_length, List.append_nil, hJ5, List.take_length])

theorem c_laws_markCache (a : PCache) (k : Int) (w : World) (F : List Nat) (hF : Own.own w a F) (hn : F.Nodup)  (hk0 : 0 ≤ k) (hk : k + ((costoCache a.lg : Nat) : Int) ≤ 100000000) : Calls Try.prog 39 [.agg #[Sl.v a.entries], I k].toArray w (RetM w a F (I (k + ((costoCache a.lg : Nat) : Int))) (fun a' => a'.lg = mkoCache k a.lg)) := by
  have hk2 := hk
  simp only [costoCache, costoCache, PToken.lg, PNode.lg, PBuilder.lg, PSheet.lg, PPolicy.lg, PServer.lg, PCache.lg, PNet.lg, PPage.lg] at hk2
  refine enterN 10 Try.func39 rfl rfl rfl ?_
  have hs := Sat.markStart hF hn
  obtain ⟨G0, hfl, hs⟩ := PCache.split hs
  refine WC.seq ?_
  refine WL.r (by rfl) (Yr.box hs (by rfl) (by rfl)) ?_
  clear hs; rintro _ w ⟨b1, rfl, hb, hs⟩; clear hb
  refine WL.p (by rfl) (Yl.assign (by rfl)) ?_
  refine WL.next ?_
  refine WC.seq ?_
  refine WL.p (by rfl) (Yl.fieldAddr fa62_0 (by rfl)) ?_
  refine WL.p (by rfl) (Yl.loadB sca60 (by rfl) hs (by repeat (first | exact List.mem_cons_self | apply List.mem_cons_of_mem)) (by rfl)) ?_
  refine WL.p (by rfl) (Yl.move (by rfl)) ?_
  refine WL.callm (a := a.entries) (F := G0) hs (by repeat (first | exact Sel.nil | (apply Sel.cons; (repeat (first | exact Ext.here | apply Ext.there))))) (by rfl) (Yc.func (by rfl) fn93) (c_laws_markEntryS a.entries _ _ G0 (own_of hs (by repeat (first | exact List.mem_cons_self | apply List.mem_cons_of_mem))) (nodup_of hs (by repeat (first | exact List.mem_cons_self | apply List.mem_cons_of_mem))) (by first | assumption | omega | (simp only [costServer, costNode, costSheet, costToken, costoPolicy, costoCache, costoNet, costoSheet, costoBuilder, costoToken, PToken.lg, PNode.lg, PBuilder.lg, PSheet.lg, PPolicy.lg, PServer.lg, PCache.lg, PNet.lg, PPage.lg] at *; omega)) (by first | assumption | omega | (simp only [costServer, costNode, costSheet, costToken, costoPolicy, costoCache, costoNet, costoSheet, costoBuilder, costoToken, PToken.lg, PNode.lg, PBuilder.lg, PSheet.lg, PPolicy.lg, PServer.lg, PCache.lg, PNet.lg, PPage.lg] at *; omega))) ?_
  clear hs; intro a2 F2 w he2 hq2 hs
  refine WL.p (by rfl) (Yl.assign (by rfl)) ?_
  refine WL.next ?_
  refine WC.seq ?_
  refine WL.p (by rfl) (Yl.move (by rfl)) ?_
  refine WL.p (by rfl) (Yl.assign (by rfl)) ?_
  refine WL.next ?_
  refine WC.ret ?_
  refine fin1' rfl (by rfl) ?_
  refine RetM.cast (congrArg I (by first | rfl | (simp only [costoCache, costoCache, PToken.lg, PNode.lg, PBuilder.lg, PSheet.lg, PPolicy.lg, PServer.lg, PCache.lg, PNet.lg, PPage.lg]; omega))) ?_
  exact RetM.of (a' := ⟨a2⟩) (PCache.join ⟨a2⟩ (hs.only (D := [ow a2 F2]) (by repeat (first | exact Sel.nil | (apply Sel.cons; (repeat (first | exact Ext.here | apply Ext.there)))))) ) List.mem_cons_self (by show [Sl.v a2] = [Sl.v a.entries]; rw [show Sl.v a2 = Sl.v a.entries from Sl.enc_v he2]) (by simp only [PCache.lg, mkoCache]; rw [show a2.l = _ from hq2])

theorem c_laws_heldEntryS (a : (Sl TEntry)) (k : Int) (v : List TEntry) (w : World) (h_a : Ph.ok w a) (hk0 : 0 ≤ k) (hk : k + ((costL (fun _ => 10) (v) : Nat) : Int) ≤ 100000000) (hm : a.l = mkL mkEntry (fun _ => 10) k v) : Calls Try.prog 94 [Sl.v a, I k].toArray w (RetP w (I (k + ((costL (fun _ => 10) (v) : Nat) : Int)))) := by
  have hw := h_a.lt
  have hc : a.l.length = v.length := by rw [hm, mkL_length]
  have hk2 := hk
  rw [costL_const] at hk2
  refine enterN 118 Try.func94 rfl rfl rfl ?_
  have hs := Sat.start w
  refine WC.seq ?_
  refine WL.p (by rfl) (Yl.assign (by rfl)) ?_
  refine WL.next ?_
  refine WC.seq' ?_
  refine WC.seq ?_
  refine WL.p (by rfl) (Yl.assign (by rfl)) ?_
  refine WL.next ?_
  refine WC.block ?_
  refine WC.loopC (ι := Nat) (fun n => a.l.length - n) (fun n => [(5, I (n : Int)), (1, I (k + ((10 * n : Nat) : Int)))]) (fun _ => []) (fun n => n ≤ a.l.length) [(0, _)] 0 (hs) ⟨by rfl, trivial⟩ ⟨by rfl, by exact congrArg (fun z => some (I z)) (by omega), trivial⟩ ?_ ?_
  ·
    exact Nat.zero_le _
  clear hs; rintro n w hJ1 hs
  simp only [List.nil_append] at hs
  refine WC.seq' ?_
  refine WC.seq ?_
  refine WL.p (by rfl) (Yl.move (by rfl)) ?_
  refine WL.p (by rfl) (Yl.move (by rfl)) ?_
  refine WL.p (by rfl) (Yl.len_sl slu60 (by rfl)) ?_
  refine WL.p (by rfl) (Yl.lss (by rfl) (by rfl)) ?_
  refine WL.next ?_
  refine WC.condS (by rfl) (fun h1 => ?_) (fun h1 => ?_)
  ·
    replace h1 := of_decide_eq_true h1
    obtain ⟨y, hy⟩ := exists_get (l := v) (k := n) (by omega)
    have hd : a.l[n]? = some (mkEntry (k + ((10 * n : Nat) : Int)) y) := by rw [hm, mkL_get hy, costL_take_const (by omega)]
    refine WC.skipn ?_
    refine WC.seq' ?_
    refine WC.block ?_
    refine WC.seq' ?_
    refine WC.quietn mixed (by kernel_rfl) hs ?_
    refine WQ.p (by rfl) (fun w hs => Yl.move (by rfl)) ?_
    refine WQ.p (by rfl) (fun w hs => Yl.move (by rfl)) ?_
    refine WQ.p (by rfl) (fun w hs => Yl.indexAddr slt60 (by rfl) (by rfl) (Ph.old h_a hs) (by rfl) (hd)) ?_
    refine WQ.p (by rfl) (fun w hs => Yl.fieldAddr fa138_0 (by rfl)) ?_
    refine WQ.p (by rfl) (fun w hs => Yl.loadC sca9 (by rfl) (Sl.Ok.at_ (Ph.old h_a hs) (by assumption)).2 (by rfl)) ?_
    refine WQ.p (by rfl) (fun w hs => Yl.move (by rfl)) ?_
    refine WQ.callp (by rfl) (fun w => Yc.func (by rfl) fn103) (fun w hs => (c_laws_markText _ _ (by omega))) (fun _ _ hs hb => hs.ext hb) ?_
    refine WQ.p (by rfl) (fun w hs => Yl.nes (by rfl) (by rfl)) ?_
    refine WQ.next ?_
    clear hs; intro w hs
    refine WC.condS (by rfl) (fun h2 => ?_) (fun h2 => ?_)
    ·
      replace h2 := not_eq_true h2
      replace h2 := of_decide_eq_false h2
      refine WC.seq ?_
      refine WL.p (by rfl) (Yl.assign (by rfl)) ?_
      refine WL.next ?_
      refine WC.ret ?_
      refine At.thenret ?_
      refine At.blockret ?_
      refine At.thenret ?_
      refine At.thenret ?_
      refine At.blockret ?_
      refine At.thenret ?_
      refine fin1' rfl (by rfl) ?_
      refine RetP.mk hs ?_
      first
        | exact absurd rfl h2
        | (exfalso; omega)
        | (rw [costL_const]; exact congrArg I (by omega))
    ·
      replace h2 := not_eq_false h2
      replace h2 := of_decide_eq_true h2
      refine WC.skipn ?_
      refine WC.seq ?_
      refine WL.p (by rfl) (Yl.move (by rfl)) ?_
      refine WL.p (by rfl) (Yl.add (by rfl) (by rfl) (by omega)) ?_
      refine WL.p (by rfl) (Yl.assign (by rfl)) ?_
      refine WL.next ?_
      refine WC.seq' ?_
      refine WC.quietn mixed (by kernel_rfl) hs ?_
      refine WQ.p (by rfl) (fun w hs => Yl.move (by rfl)) ?_
      refine WQ.p (by rfl) (fun w hs => Yl.move (by rfl)) ?_
      refine WQ.p (by rfl) (fun w hs => Yl.indexAddr slt60 (by rfl) (by rfl) (Ph.old h_a hs) (by rfl) (hd)) ?_
      refine WQ.p (by rfl) (fun w hs => Yl.fieldAddr fa138_1 (by rfl)) ?_
      refine WQ.p (by rfl) (fun w hs => Yl.fieldAddr2 fa44_0 (by rfl)) ?_
      refine WQ.p (by rfl) (fun w hs => Yl.loadC sca9 (by rfl) (Sl.Ok.at_ (Ph.old h_a hs) (by assumption)).2 (by rfl)) ?_
      refine WQ.p (by rfl) (fun w hs => Yl.move (by rfl)) ?_
      refine WQ.callp (by rfl) (fun w => Yc.func (by rfl) fn103) (fun w hs => (c_laws_markText _ _ (by omega))) (fun _ _ hs hb => hs.ext hb) ?_
      refine WQ.p (by rfl) (fun w hs => Yl.nes (by rfl) (by rfl)) ?_
      refine WQ.next ?_
      clear hs; intro w hs
      refine WC.condS (by rfl) (fun h3 => ?_) (fun h3 => ?_)
      ·
        replace h3 := not_eq_true h3
        replace h3 := of_decide_eq_false h3
        refine WC.seq ?_
        refine WL.p (by rfl) (Yl.assign (by rfl)) ?_
        refine WL.next ?_
        refine WC.ret ?_
        refine At.thenret ?_
        refine At.blockret ?_
        refine At.thenret ?_
        refine At.thenret ?_
        refine At.blockret ?_
        refine At.thenret ?_
        refine fin1' rfl (by rfl) ?_
        refine RetP.mk hs ?_
        first
          | exact absurd rfl h3
          | (exfalso; omega)
          | (rw [costL_const]; exact congrArg I (by omega))
      ·
        replace h3 := not_eq_false h3
        replace h3 := of_decide_eq_true h3
        refine WC.skipn ?_
        refine WC.seq ?_
        refine WL.p (by rfl) (Yl.move (by rfl)) ?_
        refine WL.p (by rfl) (Yl.add (by rfl) (by rfl) (by omega)) ?_
        refine WL.p (by rfl) (Yl.assign (by rfl)) ?_
        refine WL.next ?_
        refine WC.seq' ?_
        refine WC.quietn mixed (by kernel_rfl) hs ?_
        refine WQ.p (by rfl) (fun w hs => Yl.move (by rfl)) ?_
        refine WQ.p (by rfl) (fun w hs => Yl.move (by rfl)) ?_
        refine WQ.p (by rfl) (fun w hs => Yl.indexAddr slt60 (by rfl) (by rfl) (Ph.old h_a hs) (by rfl) (hd)) ?_
        refine WQ.p (by rfl) (fun w hs => Yl.fieldAddr fa138_1 (by rfl)) ?_
        refine WQ.p (by rfl) (fun w hs => Yl.fieldAddr2 fa44_1 (by rfl)) ?_
        refine WQ.p (by rfl) (fun w hs => Yl.loadC sca9 (by rfl) (Sl.Ok.at_ (Ph.old h_a hs) (by assumption)).2 (by rfl)) ?_
        refine WQ.p (by rfl) (fun w hs => Yl.move (by rfl)) ?_
        refine WQ.callp (by rfl) (fun w => Yc.func (by rfl) fn103) (fun w hs => (c_laws_markText _ _ (by omega))) (fun _ _ hs hb => hs.ext hb) ?_
        refine WQ.p (by rfl) (fun w hs => Yl.nes (by rfl) (by rfl)) ?_
        refine WQ.next ?_
        clear hs; intro w hs
        refine WC.condS (by rfl) (fun h4 => ?_) (fun h4 => ?_)
        ·
          replace h4 := not_eq_true h4
          replace h4 := of_decide_eq_false h4
          refine WC.seq ?_
          refine WL.p (by rfl) (Yl.assign (by rfl)) ?_
          refine WL.next ?_
          refine WC.ret ?_
          refine At.thenret ?_
          refine At.blockret ?_
          refine At.thenret ?_
          refine At.thenret ?_
          refine At.blockret ?_
          refine At.thenret ?_
          refine fin1' rfl (by rfl) ?_
          refine RetP.mk hs ?_
          first
            | exact absurd rfl h4
            | (exfalso; omega)
            | (rw [costL_const]; exact congrArg I (by omega))
        ·
          replace h4 := not_eq_false h4
          replace h4 := of_decide_eq_true h4
          refine WC.skipn ?_
          refine WC.seq ?_
          refine WL.p (by rfl) (Yl.move (by rfl)) ?_
          refine WL.p (by rfl) (Yl.add (by rfl) (by rfl) (by omega)) ?_
          refine WL.p (by rfl) (Yl.assign (by rfl)) ?_
          refine WL.next ?_
          refine WC.seq' ?_
          refine WC.seq ?_
          refine WL.p (by rfl) (Yl.move (by rfl)) ?_
          refine WL.p (by rfl) (Yl.move (by rfl)) ?_
          refine WL.p (by rfl) (Yl.indexAddr slt60 (by rfl) (by rfl) (Ph.old h_a hs) (by rfl) (hd)) ?_
          refine WL.p (by rfl) (Yl.fieldAddr fa138_2 (by rfl)) ?_
          refine WL.p (by rfl) (Yl.fieldAddr2 fa51_0 (by rfl)) ?_
          refine WL.p (by rfl) (Yl.loadC sca3 (by rfl) (Sl.Ok.at_ (Ph.old h_a hs) (by assumption)).2 (by rfl)) ?_
          refine WL.p (by rfl) (Yl.move (by rfl)) ?_
          refine WL.p (by rfl) (Yl.nei (by rfl) (by rfl)) ?_
          refine WL.next ?_
          refine WC.condS (by rfl) (fun h5 => ?_) (fun h5 => ?_)
          ·
            replace h5 := not_eq_true h5
            replace h5 := of_decide_eq_false h5
            refine WC.seq ?_
            refine WL.p (by rfl) (Yl.assign (by rfl)) ?_
            refine WL.next ?_
            refine WC.ret ?_
            refine At.thenret ?_
            refine At.blockret ?_
            refine At.thenret ?_
            refine At.thenret ?_
            refine At.blockret ?_
            refine At.thenret ?_
            refine fin1' rfl (by rfl) ?_
            refine RetP.mk hs ?_
            first
              | exact absurd rfl h5
              | (exfalso; omega)
              | (rw [costL_const]; exact congrArg I (by omega))
          ·
            replace h5 := not_eq_false h5
            replace h5 := of_decide_eq_true h5
            refine WC.skipn ?_
            refine WC.seq ?_
            refine WL.p (by rfl) (Yl.move (by rfl)) ?_
            refine WL.p (by rfl) (Yl.add (by rfl) (by rfl) (by omega)) ?_
            refine WL.p (by rfl) (Yl.assign (by rfl)) ?_
            refine WL.next ?_
            refine WC.seq' ?_
            refine WC.seq ?_
            refine WL.p (by rfl) (Yl.move (by rfl)) ?_
            refine WL.p (by rfl) (Yl.move (by rfl)) ?_
            refine WL.p (by rfl) (Yl.indexAddr slt60 (by rfl) (by rfl) (Ph.old h_a hs) (by rfl) (hd)) ?_
            refine WL.p (by rfl) (Yl.fieldAddr fa138_2 (by rfl)) ?_
            refine WL.p (by rfl) (Yl.fieldAddr2 fa51_1 (by rfl)) ?_
            refine WL.p (by rfl) (Yl.loadC sca3 (by rfl) (Sl.Ok.at_ (Ph.old h_a hs) (by assumption)).2 (by rfl)) ?_
            refine WL.p (by rfl) (Yl.move (by rfl)) ?_
            refine WL.p (by rfl) (Yl.nei (by rfl) (by rfl)) ?_
            refine WL.next ?_
            refine WC.condS (by rfl) (fun h6 => ?_) (fun h6 => ?_)
            ·
              replace h6 := not_eq_true h6
              replace h6 := of_decide_eq_false h6
              refine WC.seq ?_
              refine WL.p (by rfl) (Yl.assign (by rfl)) ?_
              refine WL.next ?_
              refine WC.ret ?_
              refine At.thenret ?_
              refine At.blockret ?_
              refine At.thenret ?_
              refine At.thenret ?_
              refine At.blockret ?_
              refine At.thenret ?_
              refine fin1' rfl (by rfl) ?_
              refine RetP.mk hs ?_
              first
                | exact absurd rfl h6
                | (exfalso; omega)
                | (rw [costL_const]; exact congrArg I (by omega))
            ·
              replace h6 := not_eq_false h6
              replace h6 := of_decide_eq_true h6
              refine WC.skipn ?_
              refine WC.seq ?_
              refine WL.p (by rfl) (Yl.move (by rfl)) ?_
              refine WL.p (by rfl) (Yl.add (by rfl) (by rfl) (by omega)) ?_
              refine WL.p (by rfl) (Yl.assign (by rfl)) ?_
              refine WL.next ?_
              refine WC.seq' ?_
              refine WC.quietn mixed (by kernel_rfl) hs ?_
              refine WQ.p (by rfl) (fun w hs => Yl.move (by rfl)) ?_
              refine WQ.p (by rfl) (fun w hs => Yl.move (by rfl)) ?_
              refine WQ.p (by rfl) (fun w hs => Yl.indexAddr slt60 (by rfl) (by rfl) (Ph.old h_a hs) (by rfl) (hd)) ?_
              refine WQ.p (by rfl) (fun w hs => Yl.fieldAddr fa138_2 (by rfl)) ?_
              refine WQ.p (by rfl) (fun w hs => Yl.fieldAddr2 fa51_2 (by rfl)) ?_
              refine WQ.p (by rfl) (fun w hs => Yl.loadC sca9 (by rfl) (Sl.Ok.at_ (Ph.old h_a hs) (by assumption)).2 (by rfl)) ?_
              refine WQ.p (by rfl) (fun w hs => Yl.move (by rfl)) ?_
              refine WQ.callp (by rfl) (fun w => Yc.func (by rfl) fn103) (fun w hs => (c_laws_markText _ _ (by omega))) (fun _ _ hs hb => hs.ext hb) ?_
              refine WQ.p (by rfl) (fun w hs => Yl.nes (by rfl) (by rfl)) ?_
              refine WQ.next ?_
              clear hs; intro w hs
              refine WC.condS (by rfl) (fun h7 => ?_) (fun h7 => ?_)
              ·
                replace h7 := not_eq_true h7
                replace h7 := of_decide_eq_false h7
                refine WC.seq ?_
                refine WL.p (by rfl) (Yl.assign (by rfl)) ?_
                refine WL.next ?_
                refine WC.ret ?_
                refine At.thenret ?_
                refine At.blockret ?_
                refine At.thenret ?_
                refine At.thenret ?_
                refine At.blockret ?_
                refine At.thenret ?_
                refine fin1' rfl (by rfl) ?_
                refine RetP.mk hs ?_
                first
                  | exact absurd rfl h7
                  | (exfalso; omega)
                  | (rw [costL_const]; exact congrArg I (by omega))
              ·
                replace h7 := not_eq_false h7
                replace h7 := of_decide_eq_true h7
                refine WC.skipn ?_
                refine WC.seq ?_
                refine WL.p (by rfl) (Yl.move (by rfl)) ?_
                refine WL.p (by rfl) (Yl.add (by rfl) (by rfl) (by omega)) ?_
                refine WL.p (by rfl) (Yl.assign (by rfl)) ?_
                refine WL.next ?_
                refine WC.seq' ?_
                refine WC.seq ?_
                refine WL.p (by rfl) (Yl.move (by rfl)) ?_
                refine WL.p (by rfl) (Yl.move (by rfl)) ?_
                refine WL.p (by rfl) (Yl.indexAddr slt60 (by rfl) (by rfl) (Ph.old h_a hs) (by rfl) (hd)) ?_
                refine WL.p (by rfl) (Yl.fieldAddr fa138_2 (by rfl)) ?_
                refine WL.p (by rfl) (Yl.fieldAddr2 fa51_3 (by rfl)) ?_
                refine WL.p (by rfl) (Yl.loadC sca3 (by rfl) (Sl.Ok.at_ (Ph.old h_a hs) (by assumption)).2 (by rfl)) ?_
                refine WL.p (by rfl) (Yl.move (by rfl)) ?_
                refine WL.p (by rfl) (Yl.nei (by rfl) (by rfl)) ?_
                refine WL.next ?_
                refine WC.condS (by rfl) (fun h8 => ?_) (fun h8 => ?_)
                ·
                  replace h8 := not_eq_true h8
                  replace h8 := of_decide_eq_false h8
                  refine WC.seq ?_
                  refine WL.p (by rfl) (Yl.assign (by rfl)) ?_
                  refine WL.next ?_
                  refine WC.ret ?_
                  refine At.thenret ?_
                  refine At.blockret ?_
                  refine At.thenret ?_
                  refine At.thenret ?_
                  refine At.blockret ?_
                  refine At.thenret ?_
                  refine fin1' rfl (by rfl) ?_
                  refine RetP.mk hs ?_
                  first
                    | exact absurd rfl h8
                    | (exfalso; omega)
                    | (rw [costL_const]; exact congrArg I (by omega))
                ·
                  replace h8 := not_eq_false h8
                  replace h8 := of_decide_eq_true h8
                  refine WC.skipn ?_
                  refine WC.seq ?_
                  refine WL.p (by rfl) (Yl.move (by rfl)) ?_
                  refine WL.p (by rfl) (Yl.add (by rfl) (by rfl) (by omega)) ?_
                  refine WL.p (by rfl) (Yl.assign (by rfl)) ?_
                  refine WL.next ?_
                  refine WC.seq' ?_
                  refine WC.seq ?_
                  refine WL.p (by rfl) (Yl.move (by rfl)) ?_
                  refine WL.p (by rfl) (Yl.move (by rfl)) ?_
                  refine WL.p (by rfl) (Yl.indexAddr slt60 (by rfl) (by rfl) (Ph.old h_a hs) (by rfl) (hd)) ?_
                  refine WL.p (by rfl) (Yl.fieldAddr fa138_2 (by rfl)) ?_
                  refine WL.p (by rfl) (Yl.fieldAddr2 fa51_4 (by rfl)) ?_
                  refine WL.p (by rfl) (Yl.loadC sca4 (by rfl) (Sl.Ok.at_ (Ph.old h_a hs) (by assumption)).2 (by rfl)) ?_
                  refine WL.p (by rfl) (Yl.move (by rfl)) ?_
                  refine WL.p (by rfl) (Yl.remw (by rfl) (by rfl) (by decide)) ?_
                  refine WL.p (by rfl) (Yl.eqi (by rfl) (by rfl)) ?_
                  refine WL.p (by rfl) (Yl.neb bool4 (by rfl) (by rfl)) ?_
                  refine WL.next ?_
                  refine WC.condS (by rfl) (fun h9 => ?_) (fun h9 => ?_)
                  ·
                    replace h9 := not_eq_true h9
                    replace h9 := beq_false h9
                    refine WC.seq ?_
                    refine WL.p (by rfl) (Yl.assign (by rfl)) ?_
                    refine WL.next ?_
                    refine WC.ret ?_
                    refine At.thenret ?_
                    refine At.blockret ?_
                    refine At.thenret ?_
                    refine At.thenret ?_
                    refine At.blockret ?_
                    refine At.thenret ?_
                    refine fin1' rfl (by rfl) ?_
                    refine RetP.mk hs ?_
                    first
                      | exact absurd rfl h9
                      | (exfalso; omega)
                      | (rw [costL_const]; exact congrArg I (by omega))
                  ·
                    replace h9 := not_eq_false h9
                    replace h9 := beq_true h9
                    refine WC.skipn ?_
                    refine WC.seq ?_
                    refine WL.p (by rfl) (Yl.move (by rfl)) ?_
                    refine WL.p (by rfl) (Yl.add (by rfl) (by rfl) (by omega)) ?_
                    refine WL.p (by rfl) (Yl.assign (by rfl)) ?_
                    refine WL.next ?_
                    refine WC.seq' ?_
                    refine WC.quietn mixed (by kernel_rfl) hs ?_
                    refine WQ.p (by rfl) (fun w hs => Yl.move (by rfl)) ?_
                    refine WQ.p (by rfl) (fun w hs => Yl.move (by rfl)) ?_
                    refine WQ.p (by rfl) (fun w hs => Yl.indexAddr slt60 (by rfl) (by rfl) (Ph.old h_a hs) (by rfl) (hd)) ?_
                    refine WQ.p (by rfl) (fun w hs => Yl.fieldAddr fa138_2 (by rfl)) ?_
                    refine WQ.p (by rfl) (fun w hs => Yl.fieldAddr2 fa51_5 (by rfl)) ?_
                    refine WQ.p (by rfl) (fun w hs => Yl.loadC sca9 (by rfl) (Sl.Ok.at_ (Ph.old h_a hs) (by assumption)).2 (by rfl)) ?_
                    refine WQ.p (by rfl) (fun w hs => Yl.move (by rfl)) ?_
                    refine WQ.callp (by rfl) (fun w => Yc.func (by rfl) fn103) (fun w hs => (c_laws_markText _ _ (by omega))) (fun _ _ hs hb => hs.ext hb) ?_
                    refine WQ.p (by rfl) (fun w hs => Yl.nes (by rfl) (by rfl)) ?_
                    refine WQ.next ?_
                    clear hs; intro w hs
                    refine WC.condS (by rfl) (fun h10 => ?_) (fun h10 => ?_)
                    ·
                      replace h10 := not_eq_true h10
                      replace h10 := of_decide_eq_false h10
                      refine WC.seq ?_
                      refine WL.p (by rfl) (Yl.assign (by rfl)) ?_
                      refine WL.next ?_
                      refine WC.ret ?_
                      refine At.thenret ?_
                      refine At.blockret ?_
                      refine At.thenret ?_
                      refine At.thenret ?_
                      refine At.blockret ?_
                      refine At.thenret ?_
                      refine fin1' rfl (by rfl) ?_
                      refine RetP.mk hs ?_
                      first
                        | exact absurd rfl h10
                        | (exfalso; omega)
                        | (rw [costL_const]; exact congrArg I (by omega))
                    ·
                      replace h10 := not_eq_false h10
                      replace h10 := of_decide_eq_true h10
                      refine WC.skipn ?_
                      refine WC.seq ?_
                      refine WL.p (by rfl) (Yl.move (by rfl)) ?_
                      refine WL.p (by rfl) (Yl.add (by rfl) (by rfl) (by omega)) ?_
                      refine WL.p (by rfl) (Yl.assign (by rfl)) ?_
                      refine WL.next ?_
                      refine WC.seq' ?_
                      refine WC.seq ?_
                      refine WL.p (by rfl) (Yl.move (by rfl)) ?_
                      refine WL.p (by rfl) (Yl.move (by rfl)) ?_
                      refine WL.p (by rfl) (Yl.indexAddr slt60 (by rfl) (by rfl) (Ph.old h_a hs) (by rfl) (hd)) ?_
                      refine WL.p (by rfl) (Yl.fieldAddr fa138_3 (by rfl)) ?_
                      refine WL.p (by rfl) (Yl.loadC sca3 (by rfl) (Sl.Ok.at_ (Ph.old h_a hs) (by assumption)).2 (by rfl)) ?_
                      refine WL.p (by rfl) (Yl.move (by rfl)) ?_
                      refine WL.p (by rfl) (Yl.nei (by rfl) (by rfl)) ?_
                      refine WL.next ?_
                      refine WC.condS (by rfl) (fun h11 => ?_) (fun h11 => ?_)
                      ·
                        replace h11 := not_eq_true h11
                        replace h11 := of_decide_eq_false h11
                        refine WC.seq ?_
                        refine WL.p (by rfl) (Yl.assign (by rfl)) ?_
                        refine WL.next ?_
                        refine WC.ret ?_
                        refine At.thenret ?_
                        refine At.blockret ?_
                        refine At.thenret ?_
                        refine At.thenret ?_
                        refine At.blockret ?_
                        refine At.thenret ?_
                        refine fin1' rfl (by rfl) ?_
                        refine RetP.mk hs ?_
                        first
                          | exact absurd rfl h11
                          | (exfalso; omega)
                          | (rw [costL_const]; exact congrArg I (by omega))
                      ·
                        replace h11 := not_eq_false h11
                        replace h11 := of_decide_eq_true h11
                        refine WC.skipn ?_
                        refine WC.region ?_
                        refine WL.p (by rfl) (Yl.move (by rfl)) ?_
                        refine WL.p (by rfl) (Yl.add (by rfl) (by rfl) (by omega)) ?_
                        refine WL.p (by rfl) (Yl.assign (by rfl)) ?_
                        refine WL.nil ?_
                        refine At.blocknormal ?_
                        refine At.then_ ?_
                        refine WC.region ?_
                        refine WL.p (by rfl) (Yl.move (by rfl)) ?_
                        refine WL.p (by rfl) (Yl.add (by rfl) (by rfl) (by omega)) ?_
                        refine WL.p (by rfl) (Yl.assign (by rfl)) ?_
                        refine WL.nil ?_
                        refine At.roundC (n + 1) (hs.only (by repeat (first | exact Sel.nil | (apply Sel.cons; (repeat (first | exact Ext.here | apply Ext.there)))))) ⟨by rfl, trivial⟩ ⟨by rfl, by exact congrArg (fun z => some (I z)) (by omega), trivial⟩ ?_ ?_
                        ·
                          omega
                        ·
                          omega
  ·
    replace h1 := of_decide_eq_false h1
    refine WC.exit ?_
    refine At.thenexit ?_
    refine At.thenexit ?_
    refine At.blockexit ?_
    refine At.then_ ?_
    refine WC.seq ?_
    refine WL.p (by rfl) (Yl.move (by rfl)) ?_
    refine WL.p (by rfl) (Yl.assign (by rfl)) ?_
    refine WL.next ?_
    refine WC.ret ?_
    refine fin1' rfl (by rfl) ?_
    refine RetP.mk hs ?_
    first
      | exact absurd rfl h1
      | (exfalso; omega)
      | (rw [costL_const]; exact congrArg I (by omega))

theorem c_laws_heldCache (a : PCache) (k : Int) (v : TCache) (w : World) (h_a : Ph.ok w a) (hk0 : 0 ≤ k) (hk : k + ((costoCache v : Nat) : Int) ≤ 100000000) (hm : a.lg = mkoCache k v) : Calls Try.prog 40 [.agg #[Sl.v a.entries], I k].toArray w (RetP w (I (k + ((costoCache v : Nat) : Int)))) := by
  have hk2 := hk
  simp only [costoCache, costoCache] at hk2
  refine enterN 12 Try.func40 rfl rfl rfl ?_
  have hs := Sat.start w
  refine WC.seq ?_
  refine WL.r (by rfl) (Yr.box hs (by rfl) (by rfl)) ?_
  clear hs; rintro _ w ⟨b1, rfl, hb, hs⟩; clear hb
  refine WL.p (by rfl) (Yl.assign (by rfl)) ?_
  refine WL.next ?_
  refine WC.seq ?_
  refine WL.p (by rfl) (Yl.fieldAddr fa62_0 (by rfl)) ?_
  refine WL.p (by rfl) (Yl.loadB sca60 (by rfl) hs (by repeat (first | exact List.mem_cons_self | apply List.mem_cons_of_mem)) (by rfl)) ?_
  refine WL.p (by rfl) (Yl.move (by rfl)) ?_
  refine WL.callp hs (by rfl) (Yc.func (by rfl) fn94) (c_laws_heldEntryS _ _ v.entries _ (Ph.old h_a.entries hs) (by first | assumption | omega | (simp only [costServer, costNode, costSheet, costToken, costoPolicy, costoCache, costoNet, costoSheet, costoBuilder, costoToken] at *; omega)) (by first | assumption | omega | (simp only [costServer, costNode, costSheet, costToken, costoPolicy, costoCache, costoNet, costoSheet, costoBuilder, costoToken] at *; omega)) (by exact congrArg TCache.entries hm)) ?_
  clear hs; intro w hs
  refine WL.p (by rfl) (Yl.assign (by rfl)) ?_
  refine WL.next ?_
  refine WC.seq' ?_
  refine WC.seq ?_
  refine WL.p (by rfl) (Yl.move (by rfl)) ?_
  refine WL.p (by rfl) (Yl.lss (by rfl) (by rfl)) ?_
  refine WL.next ?_
  refine WC.condS (by rfl) (fun h1 => ?_) (fun h1 => ?_)
  ·
    replace h1 := of_decide_eq_true h1
    refine WC.seq ?_
    refine WL.p (by rfl) (Yl.assign (by rfl)) ?_
    refine WL.next ?_
    refine WC.ret ?_
    refine At.thenret ?_
    refine fin1' rfl (by rfl) ?_
    refine RetP.mk hs ?_
    first
      | (exfalso; omega)
      | rfl
      | exact congrArg I (by simp only [costoCache, costoCache]; omega)
  ·
    replace h1 := of_decide_eq_false h1
    refine WC.skipn ?_
    refine WC.seq ?_
    refine WL.p (by rfl) (Yl.move (by rfl)) ?_
    refine WL.p (by rfl) (Yl.assign (by rfl)) ?_
    refine WL.next ?_
    refine WC.ret ?_
    refine fin1' rfl (by rfl) ?_
    refine RetP.mk hs ?_
    first
      | (exfalso; omega)
      | rfl
      | exact congrArg I (by simp only [costoCache, costoCache]; omega)

theorem c_laws_FnExactForgetHost (aC : PCache) (aTop : Str) (w : World) (h_aC : Ph.ok w aC) (h_aTop : Ph.ok w aTop)  : Calls Try.prog 7 [.agg #[Sl.v aC.entries], S aTop].toArray w (RetP w (Bo true)) := by
  refine enterN 77 Try.func7 rfl rfl rfl ?_
  have hs := Sat.start w
  refine WC.seq ?_
  refine WL.r (by rfl) (Yr.box hs (by rfl) (by rfl)) ?_
  clear hs; rintro _ w ⟨b1, rfl, hb, hs⟩; clear hb
  refine WL.p (by rfl) (Yl.assign (by rfl)) ?_
  refine WL.next ?_
  refine WC.seq' ?_
  refine WC.seq ?_
  refine WL.p (by rfl) (Yl.move (by rfl)) ?_
  refine WL.p (by rfl) (Yl.len_str str9 (by rfl)) ?_
  refine WL.p (by rfl) (Yl.gtr (by rfl) (by rfl)) ?_
  refine WL.next ?_
  refine WC.condS (by rfl) (fun h1 => ?_) (fun h1 => ?_)
  ·
    replace h1 := of_decide_eq_true h1
    refine WC.seq ?_
    refine WL.p (by rfl) (Yl.assign (by rfl)) ?_
    refine WL.next ?_
    refine WC.ret ?_
    refine At.thenret ?_
    refine fin1' rfl (by rfl) ?_
    refine RetP.mk hs ?_
    simp_all
  ·
    replace h1 := of_decide_eq_false h1
    refine WC.skipn ?_
    refine WC.seq ?_
    refine WL.p (by rfl) (Yl.assign (by rfl)) ?_
    refine WL.next ?_
    refine WC.seq ?_
    refine WL.p (by rfl) (Yl.loadAB agg58 (by rfl) hs (by repeat (first | exact List.mem_cons_self | apply List.mem_cons_of_mem)) (by rfl) (by rfl)) ?_
    refine WL.p (by rfl) (Yl.move (by rfl)) ?_
    refine WL.callp hs (by rfl) (Yc.func (by rfl) fn34) (c_laws_szCache _ _ _ (Ph.old h_aC hs) (by first | assumption | omega | (simp only [lsz] at *; omega) | (simp only [lsz, strsz, TPolicy.size, TCache.size, TAddr.size, TRequest.size, TEntry.size, TResponse.size, TLine.size] at *; omega) | (simp only [lsz_map, TPage.size, TBuilder.size, TNode.size, TToken.size, TTokenizer.size, TServer.size, TFile.size, TNet.size, TCache.size, TSheet.size, strsz] at *; omega) | (simp only [lsz_map, TPage.size, TBuilder.size, TNode.size, TToken.size, TTokenizer.size, TServer.size, TFile.size, TNet.size, TCache.size, TSheet.size, strsz, lsz] at *; omega)) (by first | assumption | omega | (simp only [lsz] at *; omega) | (simp only [lsz, strsz, TPolicy.size, TCache.size, TAddr.size, TRequest.size, TEntry.size, TResponse.size, TLine.size] at *; omega) | (simp only [lsz_map, TPage.size, TBuilder.size, TNode.size, TToken.size, TTokenizer.size, TServer.size, TFile.size, TNet.size, TCache.size, TSheet.size, strsz] at *; omega) | (simp only [lsz_map, TPage.size, TBuilder.size, TNode.size, TToken.size, TTokenizer.size, TServer.size, TFile.size, TNet.size, TCache.size, TSheet.size, strsz, lsz] at *; omega))) ?_
    clear hs; intro w hs
    refine WL.p (by rfl) (Yl.assign (by rfl)) ?_
    refine WL.next ?_
    refine WC.seq' ?_
    refine WC.seq ?_
    refine WL.p (by rfl) (Yl.move (by rfl)) ?_
    refine WL.p (by rfl) (Yl.lss (by rfl) (by rfl)) ?_
    refine WL.next ?_
    refine WC.condS (by rfl) (fun h2 => ?_) (fun h2 => ?_)
    ·
      replace h2 := lessN_neg (of_decide_eq_true h2)
      refine WC.seq ?_
      refine WL.p (by rfl) (Yl.assign (by rfl)) ?_
      refine WL.next ?_
      refine WC.ret ?_
      refine At.thenret ?_
      refine fin1' rfl (by rfl) ?_
      refine RetP.mk hs ?_
      simp_all
    ·
      replace h2 := lessN_nn (by omega) (of_decide_eq_false h2)
      refine WC.skipn ?_
      refine WC.seq ?_
      refine WL.p (by rfl) (Yl.loadAB agg58 (by rfl) hs (by repeat (first | exact List.mem_cons_self | apply List.mem_cons_of_mem)) (by rfl) (by rfl)) ?_
      refine WL.call hs (by rfl) (Yc.func (by rfl) fn36) (c_laws_toCache _ _ (Ph.old h_aC hs) (by first | assumption | omega | (simp only [lsz] at *; omega) | (simp only [lsz, strsz, TPolicy.size, TCache.size, TAddr.size, TRequest.size, TEntry.size, TResponse.size, TLine.size] at *; omega) | (simp only [lsz_map, TPage.size, TBuilder.size, TNode.size, TToken.size, TTokenizer.size, TServer.size, TFile.size, TNet.size, TCache.size, TSheet.size, strsz] at *; omega) | (simp only [lsz_map, TPage.size, TBuilder.size, TNode.size, TToken.size, TTokenizer.size, TServer.size, TFile.size, TNet.size, TCache.size, TSheet.size, strsz, lsz] at *; omega))) ?_
      have hs0 := hs; clear hs; intro v w hb hR hs; clear hs
      obtain ⟨x2, rfl, hx2, hf2⟩ := hR
      obtain ⟨F2, hs⟩ := hf2.sat hs0 hb; clear hs0 hf2
      refine WL.p (by rfl) (Yl.move (by rfl)) ?_
      refine WL.call hs (by rfl) (Yc.func (by rfl) fn35) (c_spec_ForgetHost _ _ _ (hs.okow (x := x2) (F := F2) (by repeat (first | exact List.mem_cons_self | apply List.mem_cons_of_mem))) (by first | (rw [hx2]; omega) | (rw [hx3]; omega) | (rw [hx4]; omega) | (rw [hx5]; omega) | (rw [hx6]; omega) | (rw [hx7]; omega) | (rw [hx8]; omega) | (rw [hx9]; omega) | (rw [hx10]; omega) | (rw [hx11]; omega) | (rw [hx12]; omega) | (rw [hx13]; omega) | (rw [hx14]; omega) | (rw [hx15]; omega) | (rw [hx16]; omega) | (rw [hx17]; omega) | (rw [hx18]; omega) | (rw [hx19]; omega) | (rw [hx20]; omega) | (rw [hx21]; omega) | (rw [hx22]; omega) | (rw [hx23]; omega) | (rw [hx24]; omega) | (rw [hx25]; omega) | (rw [hx26]; omega) | (rw [hx27]; omega) | (rw [hx28]; omega) | (rw [hx29]; omega) | (rw [hx30]; omega) | (rw [hx31]; omega) | (rw [hx32]; omega) | (rw [hx33]; omega) | (rw [hx34]; omega) | (rw [hx35]; omega) | (rw [hx36]; omega) | (rw [hx37]; omega) | (rw [hx38]; omega) | (rw [hx39]; omega) | (rw [hx40]; omega) | (rw [hx41]; omega) | (rw [hx42]; omega) | (rw [hx43]; omega) | (rw [hx44]; omega) | (rw [hx45]; omega) | (rw [hx46]; omega) | (rw [hx47]; omega) | (rw [hx48]; omega) | (rw [hx49]; omega) | (rw [hx50]; omega) | (rw [hx51]; omega) | (rw [hx52]; omega) | (rw [hx53]; omega) | (rw [hx54]; omega) | (rw [hx55]; omega) | (rw [hx56]; omega) | (rw [hx57]; omega) | (rw [hx58]; omega) | (rw [hx59]; omega))) ?_
      have hs0 := hs; clear hs; intro v w hb hR hs; clear hs
      obtain ⟨x3, rfl, hx3, hf3⟩ := hR
      obtain ⟨F3, hs⟩ := hf3.sat hs0 hb; clear hs0 hf3
      refine WL.r (by rfl) (Yr.alloc hs zt62) ?_
      clear hs; rintro _ w ⟨b4, rfl, hb, hs⟩; clear hb
      refine WL.s (Yr.storeB hs (by rfl) (by rfl) (by rfl) (by repeat (first | exact Repl.here | apply Repl.there)) (by repeat (first | (apply SetAt.here; repeat (first | exact Over.nil | apply Over.cons)) | apply SetAt.there)) (by rfl) (by exact szf62)) ?_
      clear hs; rintro _ w hs
      refine WL.next ?_
      refine WC.seq ?_
      refine WL.p (by rfl) (Yl.loadAB agg58 (by rfl) hs (by repeat (first | exact List.mem_cons_self | apply List.mem_cons_of_mem)) (by rfl) (by rfl)) ?_
      refine WL.call hs (by rfl) (Yc.func (by rfl) fn36) (c_laws_toCache _ _ (Ph.old h_aC hs) (by first | assumption | omega | (simp only [lsz] at *; omega) | (simp only [lsz, strsz, TPolicy.size, TCache.size, TAddr.size, TRequest.size, TEntry.size, TResponse.size, TLine.size] at *; omega) | (simp only [lsz_map, TPage.size, TBuilder.size, TNode.size, TToken.size, TTokenizer.size, TServer.size, TFile.size, TNet.size, TCache.size, TSheet.size, strsz] at *; omega) | (simp only [lsz_map, TPage.size, TBuilder.size, TNode.size, TToken.size, TTokenizer.size, TServer.size, TFile.size, TNet.size, TCache.size, TSheet.size, strsz, lsz] at *; omega))) ?_
      have hs0 := hs; clear hs; intro v w hb hR hs; clear hs
      obtain ⟨x5, rfl, hx5, hf5⟩ := hR
      obtain ⟨F5, hs⟩ := hf5.sat hs0 hb; clear hs0 hf5
      refine WL.r (by rfl) (Yr.alloc hs zt62) ?_
      clear hs; rintro _ w ⟨b6, rfl, hb, hs⟩; clear hb
      refine WL.s (Yr.storeB hs (by rfl) (by rfl) (by rfl) (by repeat (first | exact Repl.here | apply Repl.there)) (by repeat (first | (apply SetAt.here; repeat (first | exact Over.nil | apply Over.cons)) | apply SetAt.there)) (by rfl) (by exact szf62)) ?_
      clear hs; rintro _ w hs
      refine WL.next ?_
      refine WC.seq ?_
      refine WL.p (by rfl) (Yl.loadAB agg62 (by rfl) hs (by repeat (first | exact List.mem_cons_self | apply List.mem_cons_of_mem)) (by rfl) (by rfl)) ?_
      refine WL.p (by rfl) (Yl.move (by rfl)) ?_
      refine WL.call hs (by rfl) (Yc.func (by rfl) fn37) (c_impl_ForgetHost _ _ _ (hs.okow (x := x5) (F := F5) (by repeat (first | exact List.mem_cons_self | apply List.mem_cons_of_mem))) (by first | (rw [hx2]; omega) | (rw [hx3]; omega) | (rw [hx4]; omega) | (rw [hx5]; omega) | (rw [hx6]; omega) | (rw [hx7]; omega) | (rw [hx8]; omega) | (rw [hx9]; omega) | (rw [hx10]; omega) | (rw [hx11]; omega) | (rw [hx12]; omega) | (rw [hx13]; omega) | (rw [hx14]; omega) | (rw [hx15]; omega) | (rw [hx16]; omega) | (rw [hx17]; omega) | (rw [hx18]; omega) | (rw [hx19]; omega) | (rw [hx20]; omega) | (rw [hx21]; omega) | (rw [hx22]; omega) | (rw [hx23]; omega) | (rw [hx24]; omega) | (rw [hx25]; omega) | (rw [hx26]; omega) | (rw [hx27]; omega) | (rw [hx28]; omega) | (rw [hx29]; omega) | (rw [hx30]; omega) | (rw [hx31]; omega) | (rw [hx32]; omega) | (rw [hx33]; omega) | (rw [hx34]; omega) | (rw [hx35]; omega) | (rw [hx36]; omega) | (rw [hx37]; omega) | (rw [hx38]; omega) | (rw [hx39]; omega) | (rw [hx40]; omega) | (rw [hx41]; omega) | (rw [hx42]; omega) | (rw [hx43]; omega) | (rw [hx44]; omega) | (rw [hx45]; omega) | (rw [hx46]; omega) | (rw [hx47]; omega) | (rw [hx48]; omega) | (rw [hx49]; omega) | (rw [hx50]; omega) | (rw [hx51]; omega) | (rw [hx52]; omega) | (rw [hx53]; omega) | (rw [hx54]; omega) | (rw [hx55]; omega) | (rw [hx56]; omega) | (rw [hx57]; omega) | (rw [hx58]; omega) | (rw [hx59]; omega))) ?_
      have hs0 := hs; clear hs; intro v w hb hR hs; clear hs
      obtain ⟨x7, rfl, hx7, hf7⟩ := hR
      obtain ⟨F7, hs⟩ := hf7.sat hs0 hb; clear hs0 hf7
      refine WL.r (by rfl) (Yr.alloc hs zt62) ?_
      clear hs; rintro _ w ⟨b8, rfl, hb, hs⟩; clear hb
      refine WL.s (Yr.storeB hs (by rfl) (by rfl) (by rfl) (by repeat (first | exact Repl.here | apply Repl.there)) (by repeat (first | (apply SetAt.here; repeat (first | exact Over.nil | apply Over.cons)) | apply SetAt.there)) (by rfl) (by exact szf62)) ?_
      clear hs; rintro _ w hs
      refine WL.next ?_
      refine WC.seq' ?_
      refine WC.seq ?_
      refine WL.p (by rfl) (Yl.loadAB agg62 (by rfl) hs (by repeat (first | exact List.mem_cons_self | apply List.mem_cons_of_mem)) (by rfl) (by rfl)) ?_
      refine WL.p (by rfl) (Yl.loadAB agg62 (by rfl) hs (by repeat (first | exact List.mem_cons_self | apply List.mem_cons_of_mem)) (by rfl) (by rfl)) ?_
      refine WL.callp hs (by rfl) (Yc.func (by rfl) fn38) (c_laws_eqCache _ _ _ (hs.okow (x := x7) (F := F7) (by repeat (first | exact List.mem_cons_self | apply List.mem_cons_of_mem))) (hs.okow (x := x3) (F := F3) (by repeat (first | exact List.mem_cons_self | apply List.mem_cons_of_mem)))) ?_
      clear hs; intro w hs
      refine WL.p (by rfl) (Yl.not (by rfl)) ?_
      refine WL.next ?_
      refine WC.condS (by rfl) (fun h3 => ?_) (fun h3 => ?_)
      ·
        replace h3 := not_eq_true h3
        replace h3 := of_decide_eq_false h3
        refine WC.seq ?_
        refine WL.p (by rfl) (Yl.assign (by rfl)) ?_
        refine WL.next ?_
        refine WC.ret ?_
        refine At.thenret ?_
        refine fin1' rfl (by rfl) ?_
        refine RetP.mk hs ?_
        try simp only [hx2, hx3, hx5, hx7] at h1
        try simp only [hx2, hx3, hx5, hx7] at h2
        try simp only [hx2, hx3, hx5, hx7] at h3
        all_goals (first | (simp only [hx2, hx3, hx5, hx7]; done) | (exfalso; omega) | simp_all)
      ·
        replace h3 := not_eq_false h3
        replace h3 := of_decide_eq_true h3
        refine WC.skipn ?_
        refine WC.seq' ?_
        refine WC.anyn mixed hs ?_
        clear hs; intro w hs
        refine WA.p (i := 0) (by rfl) (by kernel_rfl) (by kernel_rfl) (by kernel_rfl) (by rfl) (hs.only (by repeat (first | exact Sel.nil | (apply Sel.cons; (repeat (first | exact Ext.here | apply Ext.there)))))) (fun w hs => Yl.loadAB agg62 (by rfl) hs (by repeat (first | exact List.mem_cons_self | apply List.mem_cons_of_mem)) (by rfl) (by rfl)) ?_
        refine WA.p (i := 1) (by rfl) (by kernel_rfl) (by kernel_rfl) (by kernel_rfl) (by rfl) (hs.only (by repeat (first | exact Sel.nil | (apply Sel.cons; (repeat (first | exact Ext.here | apply Ext.there)))))) (fun w hs => Yl.loadAB agg58 (by rfl) hs (by repeat (first | exact List.mem_cons_self | apply List.mem_cons_of_mem)) (by rfl) (by rfl)) ?_
        refine WA.call2 (i := 2) hs (fun _ hs => hs.only (by repeat (first | exact Sel.nil | (apply Sel.cons; (repeat (first | exact Ext.here | apply Ext.there)))))) (by kernel_rfl) (by rfl) (by rfl) (Yc.func (by rfl) fn36) (c_laws_toCache _ _ (Ph.old h_aC hs) (by first | assumption | omega | (simp only [lsz] at *; omega) | (simp only [lsz, strsz, TPolicy.size, TCache.size, TAddr.size, TRequest.size, TEntry.size, TResponse.size, TLine.size] at *; omega) | (simp only [lsz_map, TPage.size, TBuilder.size, TNode.size, TToken.size, TTokenizer.size, TServer.size, TFile.size, TNet.size, TCache.size, TSheet.size, strsz] at *; omega) | (simp only [lsz_map, TPage.size, TBuilder.size, TNode.size, TToken.size, TTokenizer.size, TServer.size, TFile.size, TNet.size, TCache.size, TSheet.size, strsz, lsz] at *; omega))) ?_
        have hs0 := hs; clear hs; intro v w hb hR hs; clear hs
        obtain ⟨x9, rfl, hx9, hf9⟩ := hR
        obtain ⟨F9, hs⟩ := hf9.sat hs0 hb; clear hs0 hf9
        refine WA.callp2 (i := 3) hs (fun _ hs => hs.only (by repeat (first | exact Sel.nil | (apply Sel.cons; (repeat (first | exact Ext.here | apply Ext.there)))))) (by kernel_rfl) (by rfl) (by rfl) (Yc.func (by rfl) fn38) (c_laws_eqCache _ _ _ (hs.okow (x := x5) (F := F5) (by repeat (first | exact List.mem_cons_self | apply List.mem_cons_of_mem))) (hs.okow (x := x9) (F := F9) (by repeat (first | exact List.mem_cons_self | apply List.mem_cons_of_mem)))) ?_
        clear hs; intro w hs
        refine WA.p (i := 4) (by rfl) (by kernel_rfl) (by kernel_rfl) (by kernel_rfl) (by rfl) (hs.only (by repeat (first | exact Sel.nil | (apply Sel.cons; (repeat (first | exact Ext.here | apply Ext.there)))))) (fun w hs => Yl.not (by rfl)) ?_
        refine WA.donen (by kernel_rfl) ?_
        refine WC.condS (by rfl) (fun h4 => ?_) (fun h4 => ?_)
        ·
          replace h4 := not_eq_true h4
          replace h4 := of_decide_eq_false h4
          refine WC.seq ?_
          refine WL.p (by rfl) (Yl.assign (by rfl)) ?_
          refine WL.next ?_
          refine WC.ret ?_
          refine At.thenret ?_
          refine fin1' rfl (by rfl) ?_
          refine RetP.mk hs ?_
          try simp only [hx2, hx3, hx5, hx7, hx9] at h1
          try simp only [hx2, hx3, hx5, hx7, hx9] at h2
          try simp only [hx2, hx3, hx5, hx7, hx9] at h3
          try simp only [hx2, hx3, hx5, hx7, hx9] at h4
          all_goals (first | (simp only [hx2, hx3, hx5, hx7, hx9]; done) | (exfalso; omega) | simp_all)
        ·
          replace h4 := not_eq_false h4
          replace h4 := of_decide_eq_true h4
          refine WC.skipn ?_
          refine WC.seq ?_
          refine WL.p (by rfl) (Yl.assign (by rfl)) ?_
          refine WL.next ?_
          refine WC.seq ?_
          refine WL.p (by rfl) (Yl.loadAB agg62 (by rfl) hs (by repeat (first | exact List.mem_cons_self | apply List.mem_cons_of_mem)) (by rfl) (by rfl)) ?_
          refine WL.p (by rfl) (Yl.move (by rfl)) ?_
          refine WL.callm (a := x5) (F := F5) hs (by repeat (first | exact Sel.nil | (apply Sel.cons; (repeat (first | exact Ext.here | apply Ext.there))))) (by rfl) (Yc.func (by rfl) fn39) (c_laws_markCache x5 _ _ F5 (own_of hs (by repeat (first | exact List.mem_cons_self | apply List.mem_cons_of_mem))) (nodup_of hs (by repeat (first | exact List.mem_cons_self | apply List.mem_cons_of_mem))) (by first | assumption | omega | (simp only [lsz] at *; omega) | (simp only [lsz, strsz, TPolicy.size, TCache.size, TAddr.size, TRequest.size, TEntry.size, TResponse.size, TLine.size] at *; omega) | (simp only [lsz_map, TPage.size, TBuilder.size, TNode.size, TToken.size, TTokenizer.size, TServer.size, TFile.size, TNet.size, TCache.size, TSheet.size, strsz] at *; omega) | (simp only [lsz_map, TPage.size, TBuilder.size, TNode.size, TToken.size, TTokenizer.size, TServer.size, TFile.size, TNet.size, TCache.size, TSheet.size, strsz, lsz] at *; omega)) (by first | omega | (try simp only [hx2, hx3, hx5, hx7, hx9]); (have := costoCache_le aC.lg; have := costForget_le aC.lg aTop; omega))) ?_
          clear hs; intro a10 F10 w he10 hq10 hs
          refine WL.p (by rfl) (Yl.assign (by rfl)) ?_
          refine WL.next ?_
          refine WC.seq' ?_
          refine WC.seq ?_
          refine WL.p (by rfl) (Yl.move (by rfl)) ?_
          refine WL.p (by rfl) (Yl.lss (by rfl) (by rfl)) ?_
          refine WL.p (by rfl) (Yl.move (by rfl)) ?_
          refine WL.split (d := 44) (by rfl) (fun h5 => ?_) (fun h5 => ?_)
          ·
            replace h5 := of_decide_eq_true h5
            refine WL.skip (d := 44) (by rfl) (by rfl) (by rfl) (by rfl) ?_
            refine WL.skip (d := 44) (by rfl) (by rfl) (by rfl) (by rfl) ?_
            refine WL.skip (d := 44) (by rfl) (by rfl) (by rfl) (by rfl) ?_
            refine WL.skip (d := 44) (by rfl) (by rfl) (by rfl) (by rfl) ?_
            refine WL.p (by rfl) (Yl.pickT (by rfl) (by rfl)) ?_
            refine WL.next ?_
            refine WC.condT (by rfl) ?_
            refine WC.seq ?_
            refine WL.p (by rfl) (Yl.assign (by rfl)) ?_
            refine WL.next ?_
            refine WC.ret ?_
            refine At.thenret ?_
            refine fin1' rfl (by rfl) ?_
            refine RetP.mk hs ?_
            try simp only [hx2, hx3, hx5, hx7, hx9, hq10] at h1
            try simp only [hx2, hx3, hx5, hx7, hx9, hq10] at h2
            try simp only [hx2, hx3, hx5, hx7, hx9, hq10] at h3
            try simp only [hx2, hx3, hx5, hx7, hx9, hq10] at h4
            try simp only [hx2, hx3, hx5, hx7, hx9, hq10] at h5
            all_goals (first | (simp only [hx2, hx3, hx5, hx7, hx9, hq10]; done) | (exfalso; omega) | simp_all)
          ·
            replace h5 := of_decide_eq_false h5
            refine WL.run (d := 44) (by rfl) (by rfl) ?_
            refine WL.p (by rfl) (Yl.loadAB agg62 (by rfl) hs (by repeat (first | exact List.mem_cons_self | apply List.mem_cons_of_mem)) (by rfl) (by rfl)) ?_
            refine WL.run (d := 44) (by rfl) (by rfl) ?_
            refine WL.p (by rfl) (Yl.loadAB agg62 (by rfl) hs (by repeat (first | exact List.mem_cons_self | apply List.mem_cons_of_mem)) (by rfl) (by rfl)) ?_
            refine WL.run (d := 44) (by rfl) (by rfl) ?_
            refine WL.callp hs (by rfl) (Yc.func (by rfl) fn38) (c_laws_eqCache _ _ _ (hs.okow (x := x7) (F := F7) (by repeat (first | exact List.mem_cons_self | apply List.mem_cons_of_mem))) (hs.okow (x := x3) (F := F3) (by repeat (first | exact List.mem_cons_self | apply List.mem_cons_of_mem)))) ?_
            clear hs; intro w hs
            refine WL.run (d := 44) (by rfl) (by rfl) ?_
            refine WL.p (by rfl) (Yl.not (by rfl)) ?_
            refine WL.p (by rfl) (Yl.pickF (by rfl) (by rfl)) ?_
            refine WL.next ?_
            refine WC.condS (by rfl) (fun h6 => ?_) (fun h6 => ?_)
            ·
              replace h6 := not_eq_true h6
              replace h6 := of_decide_eq_false h6
              refine WC.seq ?_
              refine WL.p (by rfl) (Yl.assign (by rfl)) ?_
              refine WL.next ?_
              refine WC.ret ?_
              refine At.thenret ?_
              refine fin1' rfl (by rfl) ?_
              refine RetP.mk hs ?_
              try simp only [hx2, hx3, hx5, hx7, hx9, hq10] at h1
              try simp only [hx2, hx3, hx5, hx7, hx9, hq10] at h2
              try simp only [hx2, hx3, hx5, hx7, hx9, hq10] at h3
              try simp only [hx2, hx3, hx5, hx7, hx9, hq10] at h4
              try simp only [hx2, hx3, hx5, hx7, hx9, hq10] at h5
              try simp only [hx2, hx3, hx5, hx7, hx9, hq10] at h6
              all_goals (first | (simp only [hx2, hx3, hx5, hx7, hx9, hq10]; done) | (exfalso; omega) | simp_all)
            ·
              replace h6 := not_eq_false h6
              replace h6 := of_decide_eq_true h6
              refine WC.skipn ?_
              refine WC.seq ?_
              refine WL.p (by rfl) (Yl.assign (by rfl)) ?_
              refine WL.next ?_
              refine WC.seq ?_
              refine WL.p (by rfl) (Yl.loadAB agg62 (by rfl) hs (by repeat (first | exact List.mem_cons_self | apply List.mem_cons_of_mem)) (by rfl) (by rfl)) ?_
              refine WL.p (by rfl) (Yl.move (by rfl)) ?_
              refine WL.callm (a := x7) (F := F7) hs (by repeat (first | exact Sel.nil | (apply Sel.cons; (repeat (first | exact Ext.here | apply Ext.there))))) (by rfl) (Yc.func (by rfl) fn39) (c_laws_markCache x7 _ _ F7 (own_of hs (by repeat (first | exact List.mem_cons_self | apply List.mem_cons_of_mem))) (nodup_of hs (by repeat (first | exact List.mem_cons_self | apply List.mem_cons_of_mem))) (by first | assumption | omega | (simp only [lsz] at *; omega) | (simp only [lsz, strsz, TPolicy.size, TCache.size, TAddr.size, TRequest.size, TEntry.size, TResponse.size, TLine.size] at *; omega) | (simp only [lsz_map, TPage.size, TBuilder.size, TNode.size, TToken.size, TTokenizer.size, TServer.size, TFile.size, TNet.size, TCache.size, TSheet.size, strsz] at *; omega) | (simp only [lsz_map, TPage.size, TBuilder.size, TNode.size, TToken.size, TTokenizer.size, TServer.size, TFile.size, TNet.size, TCache.size, TSheet.size, strsz, lsz] at *; omega)) (by first | omega | (try simp only [hx2, hx3, hx5, hx7, hx9]); (have := costoCache_le aC.lg; have := costForget_le aC.lg aTop; omega))) ?_
              clear hs; intro a11 F11 w he11 hq11 hs
              refine WL.p (by rfl) (Yl.assign (by rfl)) ?_
              refine WL.next ?_
              refine WC.seq ?_
              refine WL.p (by rfl) (Yl.assign (by rfl)) ?_
              refine WL.next ?_
              refine WC.seq ?_
              refine WL.p (by rfl) (Yl.loadAB agg62 (by rfl) hs (by repeat (first | exact List.mem_cons_self | apply List.mem_cons_of_mem)) (by rfl) (by rfl)) ?_
              refine WL.p (by rfl) (Yl.move (by rfl)) ?_
              refine WL.callp hs (by rfl) (Yc.func (by rfl) fn40) (calls_conv (congrArg (fun z => ([z, _] : List Value).toArray) (show (.agg #[Sl.v a11.entries] : Value) = .agg #[Sl.v x7.entries] from congrArg (fun l => Value.agg l.toArray) he11)) (c_laws_heldCache a11 _ x7.lg _ (hs.okow (x := a11) (F := F11) (by repeat (first | exact List.mem_cons_self | apply List.mem_cons_of_mem))) (by first | assumption | omega | (simp only [lsz] at *; omega) | (simp only [lsz, strsz, TPolicy.size, TCache.size, TAddr.size, TRequest.size, TEntry.size, TResponse.size, TLine.size] at *; omega) | (simp only [lsz_map, TPage.size, TBuilder.size, TNode.size, TToken.size, TTokenizer.size, TServer.size, TFile.size, TNet.size, TCache.size, TSheet.size, strsz] at *; omega) | (simp only [lsz_map, TPage.size, TBuilder.size, TNode.size, TToken.size, TTokenizer.size, TServer.size, TFile.size, TNet.size, TCache.size, TSheet.size, strsz, lsz] at *; omega)) (by first | omega | (try simp only [hx2, hx3, hx5, hx7, hx9]); (have := costoCache_le aC.lg; have := costForget_le aC.lg aTop; omega)) (by exact hq11))) ?_
              clear hs; intro w hs
              refine WL.p (by rfl) (Yl.assign (by rfl)) ?_
              refine WL.next ?_
              refine WC.seq' ?_
              refine WC.seq ?_
              refine WL.p (by rfl) (Yl.move (by rfl)) ?_
              refine WL.p (by rfl) (Yl.lss (by rfl) (by rfl)) ?_
              refine WL.next ?_
              refine WC.condS (by rfl) (fun h7 => ?_) (fun h7 => ?_)
              ·
                replace h7 := of_decide_eq_true h7
                refine WC.seq ?_
                refine WL.p (by rfl) (Yl.assign (by rfl)) ?_
                refine WL.next ?_
                refine WC.ret ?_
                refine At.thenret ?_
                refine fin1' rfl (by rfl) ?_
                refine RetP.mk hs ?_
                try simp only [hx2, hx3, hx5, hx7, hx9, hq10, hq11] at h1
                try simp only [hx2, hx3, hx5, hx7, hx9, hq10, hq11] at h2
                try simp only [hx2, hx3, hx5, hx7, hx9, hq10, hq11] at h3
                try simp only [hx2, hx3, hx5, hx7, hx9, hq10, hq11] at h4
                try simp only [hx2, hx3, hx5, hx7, hx9, hq10, hq11] at h5
                try simp only [hx2, hx3, hx5, hx7, hx9, hq10, hq11] at h6
                try simp only [hx2, hx3, hx5, hx7, hx9, hq10, hq11] at h7
                all_goals (first | (simp only [hx2, hx3, hx5, hx7, hx9, hq10, hq11]; done) | (exfalso; omega) | simp_all)
              ·
                replace h7 := of_decide_eq_false h7
                refine WC.skipn ?_
                refine WC.seq' ?_
                refine WC.seq ?_
                refine WL.p (by rfl) (Yl.move (by rfl)) ?_
                refine WL.p (by rfl) (Yl.move (by rfl)) ?_
                refine WL.p (by rfl) (Yl.nei (by rfl) (by rfl)) ?_
                refine WL.next ?_
                refine WC.condS (by rfl) (fun h8 => ?_) (fun h8 => ?_)
                ·
                  replace h8 := not_eq_true h8
                  replace h8 := of_decide_eq_false h8
                  refine WC.seq ?_
                  refine WL.p (by rfl) (Yl.assign (by rfl)) ?_
                  refine WL.next ?_
                  refine WC.ret ?_
                  refine At.thenret ?_
                  refine fin1' rfl (by rfl) ?_
                  refine RetP.mk hs ?_
                  try simp only [hx2, hx3, hx5, hx7, hx9, hq10, hq11] at h1
                  try simp only [hx2, hx3, hx5, hx7, hx9, hq10, hq11] at h2
                  try simp only [hx2, hx3, hx5, hx7, hx9, hq10, hq11] at h3
                  try simp only [hx2, hx3, hx5, hx7, hx9, hq10, hq11] at h4
                  try simp only [hx2, hx3, hx5, hx7, hx9, hq10, hq11] at h5
                  try simp only [hx2, hx3, hx5, hx7, hx9, hq10, hq11] at h6
                  try simp only [hx2, hx3, hx5, hx7, hx9, hq10, hq11] at h7
                  try simp only [hx2, hx3, hx5, hx7, hx9, hq10, hq11] at h8
                  all_goals (first | (simp only [hx2, hx3, hx5, hx7, hx9, hq10, hq11]; done) | (exfalso; omega) | simp_all)
                ·
                  replace h8 := not_eq_false h8
                  replace h8 := of_decide_eq_true h8
                  refine WC.skipn ?_
                  refine WC.seq ?_
                  refine WL.p (by rfl) (Yl.loadAB agg58 (by rfl) hs (by repeat (first | exact List.mem_cons_self | apply List.mem_cons_of_mem)) (by rfl) (by rfl)) ?_
                  refine WL.call hs (by rfl) (Yc.func (by rfl) fn36) (c_laws_toCache _ _ (Ph.old h_aC hs) (by first | assumption | omega | (simp only [lsz] at *; omega) | (simp only [lsz, strsz, TPolicy.size, TCache.size, TAddr.size, TRequest.size, TEntry.size, TResponse.size, TLine.size] at *; omega) | (simp only [lsz_map, TPage.size, TBuilder.size, TNode.size, TToken.size, TTokenizer.size, TServer.size, TFile.size, TNet.size, TCache.size, TSheet.size, strsz] at *; omega) | (simp only [lsz_map, TPage.size, TBuilder.size, TNode.size, TToken.size, TTokenizer.size, TServer.size, TFile.size, TNet.size, TCache.size, TSheet.size, strsz, lsz] at *; omega))) ?_
                  have hs0 := hs; clear hs; intro v w hb hR hs; clear hs
                  obtain ⟨x12, rfl, hx12, hf12⟩ := hR
                  obtain ⟨F12, hs⟩ := hf12.sat hs0 hb; clear hs0 hf12
                  refine WL.p (by rfl) (Yl.move (by rfl)) ?_
                  refine WL.call hs (by rfl) (Yc.func (by rfl) fn37) (c_impl_ForgetHost _ _ _ (hs.okow (x := x12) (F := F12) (by repeat (first | exact List.mem_cons_self | apply List.mem_cons_of_mem))) (by first | (rw [hx2]; omega) | (rw [hx3]; omega) | (rw [hx4]; omega) | (rw [hx5]; omega) | (rw [hx6]; omega) | (rw [hx7]; omega) | (rw [hx8]; omega) | (rw [hx9]; omega) | (rw [hx10]; omega) | (rw [hx11]; omega) | (rw [hx12]; omega) | (rw [hx13]; omega) | (rw [hx14]; omega) | (rw [hx15]; omega) | (rw [hx16]; omega) | (rw [hx17]; omega) | (rw [hx18]; omega) | (rw [hx19]; omega) | (rw [hx20]; omega) | (rw [hx21]; omega) | (rw [hx22]; omega) | (rw [hx23]; omega) | (rw [hx24]; omega) | (rw [hx25]; omega) | (rw [hx26]; omega) | (rw [hx27]; omega) | (rw [hx28]; omega) | (rw [hx29]; omega) | (rw [hx30]; omega) | (rw [hx31]; omega) | (rw [hx32]; omega) | (rw [hx33]; omega) | (rw [hx34]; omega) | (rw [hx35]; omega) | (rw [hx36]; omega) | (rw [hx37]; omega) | (rw [hx38]; omega) | (rw [hx39]; omega) | (rw [hx40]; omega) | (rw [hx41]; omega) | (rw [hx42]; omega) | (rw [hx43]; omega) | (rw [hx44]; omega) | (rw [hx45]; omega) | (rw [hx46]; omega) | (rw [hx47]; omega) | (rw [hx48]; omega) | (rw [hx49]; omega) | (rw [hx50]; omega) | (rw [hx51]; omega) | (rw [hx52]; omega) | (rw [hx53]; omega) | (rw [hx54]; omega) | (rw [hx55]; omega) | (rw [hx56]; omega) | (rw [hx57]; omega) | (rw [hx58]; omega) | (rw [hx59]; omega))) ?_
                  have hs0 := hs; clear hs; intro v w hb hR hs; clear hs
                  obtain ⟨x13, rfl, hx13, hf13⟩ := hR
                  obtain ⟨F13, hs⟩ := hf13.sat hs0 hb; clear hs0 hf13
                  refine WL.r (by rfl) (Yr.alloc hs zt62) ?_
                  clear hs; rintro _ w ⟨b14, rfl, hb, hs⟩; clear hb
                  refine WL.s (Yr.storeB hs (by rfl) (by rfl) (by rfl) (by repeat (first | exact Repl.here | apply Repl.there)) (by repeat (first | (apply SetAt.here; repeat (first | exact Over.nil | apply Over.cons)) | apply SetAt.there)) (by rfl) (by exact szf62)) ?_
                  clear hs; rintro _ w hs
                  refine WL.next ?_
                  refine WC.seq' ?_
                  refine WC.seq ?_
                  refine WL.p (by rfl) (Yl.loadAB agg62 (by rfl) hs (by repeat (first | exact List.mem_cons_self | apply List.mem_cons_of_mem)) (by rfl) (by rfl)) ?_
                  refine WL.p (by rfl) (Yl.loadAB agg62 (by rfl) hs (by repeat (first | exact List.mem_cons_self | apply List.mem_cons_of_mem)) (by rfl) (by rfl)) ?_
                  refine WL.callp hs (by rfl) (Yc.func (by rfl) fn38) (c_laws_eqCache _ _ _ (hs.okow (x := x13) (F := F13) (by repeat (first | exact List.mem_cons_self | apply List.mem_cons_of_mem))) (hs.okow (x := x3) (F := F3) (by repeat (first | exact List.mem_cons_self | apply List.mem_cons_of_mem)))) ?_
                  clear hs; intro w hs
                  refine WL.p (by rfl) (Yl.not (by rfl)) ?_
                  refine WL.next ?_
                  refine WC.condS (by rfl) (fun h9 => ?_) (fun h9 => ?_)
                  ·
                    replace h9 := not_eq_true h9
                    replace h9 := of_decide_eq_false h9
                    refine WC.seq ?_
                    refine WL.p (by rfl) (Yl.assign (by rfl)) ?_
                    refine WL.next ?_
                    refine WC.ret ?_
                    refine At.thenret ?_
                    refine fin1' rfl (by rfl) ?_
                    refine RetP.mk hs ?_
                    try simp only [hx2, hx3, hx5, hx7, hx9, hq10, hq11, hx12, hx13] at h1
                    try simp only [hx2, hx3, hx5, hx7, hx9, hq10, hq11, hx12, hx13] at h2
                    try simp only [hx2, hx3, hx5, hx7, hx9, hq10, hq11, hx12, hx13] at h3
                    try simp only [hx2, hx3, hx5, hx7, hx9, hq10, hq11, hx12, hx13] at h4
                    try simp only [hx2, hx3, hx5, hx7, hx9, hq10, hq11, hx12, hx13] at h5
                    try simp only [hx2, hx3, hx5, hx7, hx9, hq10, hq11, hx12, hx13] at h6
                    try simp only [hx2, hx3, hx5, hx7, hx9, hq10, hq11, hx12, hx13] at h7
                    try simp only [hx2, hx3, hx5, hx7, hx9, hq10, hq11, hx12, hx13] at h8
                    try simp only [hx2, hx3, hx5, hx7, hx9, hq10, hq11, hx12, hx13] at h9
                    all_goals (first | (simp only [hx2, hx3, hx5, hx7, hx9, hq10, hq11, hx12, hx13]; done) | (exfalso; omega) | simp_all)
                  ·
                    replace h9 := not_eq_false h9
                    replace h9 := of_decide_eq_true h9
                    refine WC.skipn ?_
                    refine WC.seq ?_
                    refine WL.p (by rfl) (Yl.assign (by rfl)) ?_
                    refine WL.next ?_
                    refine WC.seq ?_
                    refine WL.p (by rfl) (Yl.loadAB agg62 (by rfl) hs (by repeat (first | exact List.mem_cons_self | apply List.mem_cons_of_mem)) (by rfl) (by rfl)) ?_
                    refine WL.p (by rfl) (Yl.move (by rfl)) ?_
                    refine WL.callp hs (by rfl) (Yc.func (by rfl) fn40) (calls_conv (congrArg (fun z => ([z, _] : List Value).toArray) (show (.agg #[Sl.v a11.entries] : Value) = .agg #[Sl.v x7.entries] from congrArg (fun l => Value.agg l.toArray) he11)) (c_laws_heldCache a11 _ x7.lg _ (hs.okow (x := a11) (F := F11) (by repeat (first | exact List.mem_cons_self | apply List.mem_cons_of_mem))) (by first | assumption | omega | (simp only [lsz] at *; omega) | (simp only [lsz, strsz, TPolicy.size, TCache.size, TAddr.size, TRequest.size, TEntry.size, TResponse.size, TLine.size] at *; omega) | (simp only [lsz_map, TPage.size, TBuilder.size, TNode.size, TToken.size, TTokenizer.size, TServer.size, TFile.size, TNet.size, TCache.size, TSheet.size, strsz] at *; omega) | (simp only [lsz_map, TPage.size, TBuilder.size, TNode.size, TToken.size, TTokenizer.size, TServer.size, TFile.size, TNet.size, TCache.size, TSheet.size, strsz, lsz] at *; omega)) (by first | omega | (try simp only [hx2, hx3, hx5, hx7, hx9, hx12, hx13]); (have := costoCache_le aC.lg; have := costForget_le aC.lg aTop; omega)) (by exact hq11))) ?_
                    clear hs; intro w hs
                    refine WL.p (by rfl) (Yl.assign (by rfl)) ?_
                    refine WL.next ?_
                    refine WC.seq' ?_
                    refine WC.seq ?_
                    refine WL.p (by rfl) (Yl.move (by rfl)) ?_
                    refine WL.p (by rfl) (Yl.lss (by rfl) (by rfl)) ?_
                    refine WL.next ?_
                    refine WC.condS (by rfl) (fun h10 => ?_) (fun h10 => ?_)
                    ·
                      replace h10 := of_decide_eq_true h10
                      refine WC.seq ?_
                      refine WL.p (by rfl) (Yl.assign (by rfl)) ?_
                      refine WL.next ?_
                      refine WC.ret ?_
                      refine At.thenret ?_
                      refine fin1' rfl (by rfl) ?_
                      refine RetP.mk hs ?_
                      try simp only [hx2, hx3, hx5, hx7, hx9, hq10, hq11, hx12, hx13] at h1
                      try simp only [hx2, hx3, hx5, hx7, hx9, hq10, hq11, hx12, hx13] at h2
                      try simp only [hx2, hx3, hx5, hx7, hx9, hq10, hq11, hx12, hx13] at h3
                      try simp only [hx2, hx3, hx5, hx7, hx9, hq10, hq11, hx12, hx13] at h4
                      try simp only [hx2, hx3, hx5, hx7, hx9, hq10, hq11, hx12, hx13] at h5
                      try simp only [hx2, hx3, hx5, hx7, hx9, hq10, hq11, hx12, hx13] at h6
                      try simp only [hx2, hx3, hx5, hx7, hx9, hq10, hq11, hx12, hx13] at h7
                      try simp only [hx2, hx3, hx5, hx7, hx9, hq10, hq11, hx12, hx13] at h8
                      try simp only [hx2, hx3, hx5, hx7, hx9, hq10, hq11, hx12, hx13] at h9
                      try simp only [hx2, hx3, hx5, hx7, hx9, hq10, hq11, hx12, hx13] at h10
                      all_goals (first | (simp only [hx2, hx3, hx5, hx7, hx9, hq10, hq11, hx12, hx13]; done) | (exfalso; omega) | simp_all)
                    ·
                      replace h10 := of_decide_eq_false h10
                      refine WC.skipn ?_
                      refine WC.seq' ?_
                      refine WC.seq ?_
                      refine WL.p (by rfl) (Yl.move (by rfl)) ?_
                      refine WL.p (by rfl) (Yl.move (by rfl)) ?_
                      refine WL.p (by rfl) (Yl.nei (by rfl) (by rfl)) ?_
                      refine WL.next ?_
                      refine WC.condS (by rfl) (fun h11 => ?_) (fun h11 => ?_)
                      ·
                        replace h11 := not_eq_true h11
                        replace h11 := of_decide_eq_false h11
                        refine WC.seq ?_
                        refine WL.p (by rfl) (Yl.assign (by rfl)) ?_
                        refine WL.next ?_
                        refine WC.ret ?_
                        refine At.thenret ?_
                        refine fin1' rfl (by rfl) ?_
                        refine RetP.mk hs ?_
                        try simp only [hx2, hx3, hx5, hx7, hx9, hq10, hq11, hx12, hx13] at h1
                        try simp only [hx2, hx3, hx5, hx7, hx9, hq10, hq11, hx12, hx13] at h2
                        try simp only [hx2, hx3, hx5, hx7, hx9, hq10, hq11, hx12, hx13] at h3
                        try simp only [hx2, hx3, hx5, hx7, hx9, hq10, hq11, hx12, hx13] at h4
                        try simp only [hx2, hx3, hx5, hx7, hx9, hq10, hq11, hx12, hx13] at h5
                        try simp only [hx2, hx3, hx5, hx7, hx9, hq10, hq11, hx12, hx13] at h6
                        try simp only [hx2, hx3, hx5, hx7, hx9, hq10, hq11, hx12, hx13] at h7
                        try simp only [hx2, hx3, hx5, hx7, hx9, hq10, hq11, hx12, hx13] at h8
                        try simp only [hx2, hx3, hx5, hx7, hx9, hq10, hq11, hx12, hx13] at h9
                        try simp only [hx2, hx3, hx5, hx7, hx9, hq10, hq11, hx12, hx13] at h10
                        try simp only [hx2, hx3, hx5, hx7, hx9, hq10, hq11, hx12, hx13] at h11
                        all_goals (first | (simp only [hx2, hx3, hx5, hx7, hx9, hq10, hq11, hx12, hx13]; done) | (exfalso; omega) | simp_all)
                      ·
                        replace h11 := not_eq_false h11
                        replace h11 := of_decide_eq_true h11
                        refine WC.skipn ?_
                        refine WC.seq ?_
                        refine WL.p (by rfl) (Yl.assign (by rfl)) ?_
                        refine WL.next ?_
                        refine WC.ret ?_
                        refine fin1' rfl (by rfl) ?_
                        refine RetP.mk hs ?_
                        try simp only [hx2, hx3, hx5, hx7, hx9, hq10, hq11, hx12, hx13] at h1
                        try simp only [hx2, hx3, hx5, hx7, hx9, hq10, hq11, hx12, hx13] at h2
                        try simp only [hx2, hx3, hx5, hx7, hx9, hq10, hq11, hx12, hx13] at h3
                        try simp only [hx2, hx3, hx5, hx7, hx9, hq10, hq11, hx12, hx13] at h4
                        try simp only [hx2, hx3, hx5, hx7, hx9, hq10, hq11, hx12, hx13] at h5
                        try simp only [hx2, hx3, hx5, hx7, hx9, hq10, hq11, hx12, hx13] at h6
                        try simp only [hx2, hx3, hx5, hx7, hx9, hq10, hq11, hx12, hx13] at h7
                        try simp only [hx2, hx3, hx5, hx7, hx9, hq10, hq11, hx12, hx13] at h8
                        try simp only [hx2, hx3, hx5, hx7, hx9, hq10, hq11, hx12, hx13] at h9
                        try simp only [hx2, hx3, hx5, hx7, hx9, hq10, hq11, hx12, hx13] at h10
                        try simp only [hx2, hx3, hx5, hx7, hx9, hq10, hq11, hx12, hx13] at h11
                        all_goals (first | (simp only [hx2, hx3, hx5, hx7, hx9, hq10, hq11, hx12, hx13]; done) | (exfalso; omega) | simp_all)

end Go.Sw
